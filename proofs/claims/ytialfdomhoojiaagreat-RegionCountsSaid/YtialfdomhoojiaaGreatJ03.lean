import Derived.Test.YtialfdomhoojiaaGreatJ02
import Derived.Test.YtialfdomhoojiaaGreatGE
import Derived.Test.YtialfdomhoojiaaGreatJ01
import Derived.Test.YtialfdomhoojiaaGreatGB
set_option linter.unusedSimpArgs false
set_option linter.unusedVariables false
namespace Go.Proofs.YtialfdomhoojiaaGreat
theorem acg (a:Int):0<=a*a:=by
 rcases Int.le_total 0 a with h | h
 · exact Int.mul_nonneg h h
 · exact Int.mul_nonneg_of_nonpos_of_nonpos h h
theorem ajs {a b:Int}:a*b<=0↔(0<=a/\b<=0)\/(a<=0/\0<=b):=by
 constructor
 ·intro h;by_cases ha:a=0
  · omega
  by_cases hp:0<a
  ·left;refine ⟨by omega,?_⟩;by_cases hb:0<b
   · have:=Int.mul_pos hp hb;omega
   · omega
  ·right;refine ⟨by omega,?_⟩;by_cases hb:b<0
   · have:=Int.mul_pos_of_neg_of_neg (show a<0 by omega) hb;omega
   · omega
 ·rintro (⟨ha,hb⟩ | ⟨ha,hb⟩)
  · exact Int.mul_nonpos_of_nonneg_of_nonpos ha hb
  · exact Int.mul_nonpos_of_nonpos_of_nonneg ha hb
theorem QT {p a b:Int}:(p-a)*(p-b)<=0↔min a b<=p/\p<=max a b:=by
 rw [ajs];omega
theorem ajt {ux uy vx vy:Int} (hc:ux*vy=uy*vx):ux*vx+uy*vy<=0↔ux*vx<=0/\uy*vy<=0:=by
 constructor
 ·intro h;have hp:0<=(ux*vx)*(uy*vy):=by
   have e:(ux*vx)*(uy*vy)=(ux*vy)*(ux*vy):=by grind
   rw [e];exact acg _
  by_cases h1:0<ux*vx
  · have:=Int.mul_neg_of_pos_of_neg h1 (show uy*vy<0 by omega);omega
  ·by_cases h2:0<uy*vy
   · have:=Int.mul_neg_of_neg_of_pos (show ux*vx<0 by omega) h2;omega
   · omega
 · omega
theorem parallel {ux uy vx vy wx wy:Int} (h:¬ (ux=0/\uy=0)) (h1:ux*vy-uy*vx=0) (h2:ux*wy-uy*wx=0):vx*wy-vy*wx=0:=by
 have e1:ux*(vx*wy-vy*wx)=0:=by grind
 have e2:uy*(vx*wy-vy*wx)=0:=by grind
 rcases Int.mul_eq_zero.1 e1 with h3 | h3
 ·rcases Int.mul_eq_zero.1 e2 with h4 | h4
  · exact absurd ⟨h3,h4⟩ h
  · exact h4
 · exact h3
theorem WG (a b p:Pt):fO a b p=qX a b p:=by
 unfold fO qX
 cases fH [a,b,p]
 · rfl
 have hc:aF a b a p=tw a b p:=rfl;rw [hc];by_cases h:tw a b p=0
 ·simp only [h,decide_true,Bool.true_and,Bool.and_assoc];rw [Bool.eq_iff_iff];simp only [Bool.and_eq_true,decide_eq_true_eq];unfold Jy;rw [ajt (by unfold tw at h;grind),QT,QT];omega
 · simp [h]
theorem nR (a b:Pt):bF a b=true↔a.x<b.x\/(a.x=b.x/\a.y<b.y):=by simp [bF]
theorem Gz (a:Pt):bF a a=false:=by rw [<- Bool.not_eq_true,nR];omega
theorem ru {a b:Pt} (h:bF a b=true):bF b a=false:=by
 rw [<- Bool.not_eq_true,nR];rw [nR] at h;omega
theorem Jz {a b:Pt} (h:bF a b=false) (h':bF b a=false):a=b:=by
 rw [<- Bool.not_eq_true,nR] at h h';rw [Pt.ext_iff'];omega
def lo (a b:Pt):Pt:=if bF b a then b else a
def hi (a b:Pt):Pt:=if bF b a then a else b
theorem WH (a b:Pt):lo a b=lo b a:=by
 unfold lo
 cases h:bF b a<;>cases h':bF a b<;>simp
 · exact Jz h' h
 · exact absurd (ru h) (by simp [h'])
theorem QU (a b:Pt):hi a b=hi b a:=by
 unfold hi
 cases h:bF b a<;>cases h':bF a b<;>simp
 · exact (Jz h' h).symm
 · exact absurd (ru h) (by simp [h'])
theorem yY (a b c d:Pt):lM a b c d=if hi (lo a b) (lo c d)=lo (hi a b) (hi c d) then 1 else if bF (hi (lo a b) (lo c d)) (lo (hi a b) (hi c d)) then 2 else 0:=by
 have e1:∀ p q:Pt,(if bF p q then q else p)=hi p q:=fun p q=>by
  unfold hi;cases h:bF q p<;>cases h':bF p q<;>simp
  · exact Jz h' h
  · exact absurd (ru h) (by simp [h'])
 have e2:∀ p q:Pt,(if bF q p then q else p)=lo p q:=fun p q=>rfl;have e3:∀ p q:Pt,(if bF q p then p else q)=hi p q:=fun p q=>rfl;unfold lM;simp only [e2,e3,e1];rw [QU (lo c d) (lo a b)]
theorem AP (a b c d:Pt):lM a b c d=lM c d a b:=by
 rw [yY a b c d,QU (lo a b) (lo c d),WH (hi a b) (hi c d),<- yY]
theorem JA (a b c d:Pt):lM a b c d=lM b a c d:=by
 rw [yY,yY,WH a b,QU a b]
theorem Ce (c d:Pt):(lo c d=c/\hi c d=d/\bF d c=false)\/(lo c d=d/\hi c d=c/\bF d c=true):=by
 unfold lo hi
 cases h:bF d c<;>simp
theorem WI (c d a:Pt) (hcd:c≠d) (h:tw c d a=0) :
  (min c.x d.x<=a.x/\a.x<=max c.x d.x/\min c.y d.y<=a.y/\a.y<=max c.y d.y)↔(bF a (lo c d)=false/\bF (hi c d) a=false):=by
 have hne:¬ (c.x=d.x/\c.y=d.y):=fun e=>hcd (Pt.ext_iff'.2 e);unfold tw at h;have hp:(a.x-c.x)*(a.y-d.y)=(a.y-c.y)*(a.x-d.x):=by grind
 have hs:0<=((a.x-c.x)*(a.x-d.x))*((a.y-c.y)*(a.y-d.y)):=by
  have e:((a.x-c.x)*(a.x-d.x))*((a.y-c.y)*(a.y-d.y))=((a.x-c.x)*(a.y-d.y))*((a.x-c.x)*(a.y-d.y)):=by grind
  rw [e];exact acg _
 have b1:(a.x-c.x)*(a.x-d.x)<=0↔min c.x d.x<=a.x/\a.x<=max c.x d.x:=QT;have b2:(a.y-c.y)*(a.y-d.y)<=0↔min c.y d.y<=a.y/\a.y<=max c.y d.y:=QT;have k1:a.x=c.x->(d.x-c.x)*(a.y-c.y)=0:=fun e=>by rw [e] at h;grind
 have k2:a.x=d.x->(d.x-c.x)*(a.y-d.y)=0:=fun e=>by rw [e] at h;grind
 have k3:(a.x-c.x)*(a.x-d.x)<0->(a.y-c.y)*(a.y-d.y)<=0:=fun e=>by
  by_cases hy:0<(a.y-c.y)*(a.y-d.y)
  · have:=Int.mul_neg_of_neg_of_pos e hy;omega
  · omega
 rw [<- Bool.not_eq_true,<- Bool.not_eq_true,nR,nR];by_cases hx:c.x=d.x
 ·have hax:a.x=c.x\/¬ a.x=c.x:=Classical.em _;have hz:a.x=c.x:=by
   have:(d.y-c.y)*(a.x-c.x)=0:=by rw [hx] at h ⊢;grind
   rcases Int.mul_eq_zero.1 this with e | e
   · exact absurd ⟨hx,by omega⟩ hne
   · omega
  have hl:=Ce c d;rcases hl with ⟨e1,e2,e3⟩ | ⟨e1,e2,e3⟩<;>rw [e1,e2]
  · rw [<- Bool.not_eq_true,nR] at e3;omega
  · rw [nR] at e3;omega
 ·have k1':a.x=c.x->a.y=c.y:=fun e=>by
   rcases Int.mul_eq_zero.1 (k1 e) with f | f<;>omega
  have k2':a.x=d.x->a.y=d.y:=fun e=>by
   rcases Int.mul_eq_zero.1 (k2 e) with f | f<;>omega
  have k3':(min c.x d.x<a.x/\a.x<max c.x d.x)->min c.y d.y<=a.y/\a.y<=max c.y d.y:=fun e=>by
   refine b2.1 (k3 ?_);rcases Int.lt_or_gt_of_ne hx with f | f
   · exact Int.mul_neg_of_pos_of_neg (by omega) (by omega)
   · exact Int.mul_neg_of_neg_of_pos (by omega) (by omega)
  have hl:=Ce c d;clear h hp hs b1 b2 k1 k2 k3;rcases hl with ⟨e1,e2,e3⟩ | ⟨e1,e2,e3⟩<;>rw [e1,e2]
  · rw [<- Bool.not_eq_true,nR] at e3;omega
  · rw [nR] at e3;omega
theorem ach (c d a:Pt) (hcd:c≠d) (h:tw c d a=0):lM a a c d=if (min c.x d.x<=a.x/\a.x<=max c.x d.x/\min c.y d.y<=a.y/\a.y<=max c.y d.y) then 1 else 0:=by
 have hl:lo a a=a:=by simp [lo]
 have hh:hi a a=a:=by simp [hi]
 have hb:=WI c d a hcd h;rw [yY,hl,hh];generalize hC:lo c d=C at *;generalize hD:hi c d=D at *;have hCD:bF D C=false:=by
  rcases Ce c d with ⟨e1,e2,e3⟩ | ⟨e1,e2,e3⟩<;>rw [<- hC,<- hD,e1,e2]
  · exact e3
  · exact ru e3
 by_cases hin:bF a C=false/\bF D a=false
 ·rw [if_pos (hb.2 hin)];have e1:hi a C=a:=by
   unfold hi;cases h':bF C a<;>simp;exact (Jz hin.1 h').symm
  have e2:lo a D=a:=by unfold lo;rw [hin.2];rfl
  rw [e1,e2];simp
 ·rw [if_neg (fun e=>hin (hb.1 e))]
  cases h1:bF a C
  ·have h2:bF D a=true:=by simpa [h1] using hin
   have e2:lo a D=D:=by unfold lo;rw [h2];rfl
   have e1:hi a C=a:=by
    unfold hi;cases h':bF C a<;>simp;exact (Jz h1 h').symm
   rw [e1,e2,if_neg (fun e=>by rw [e,Gz] at h2;cases h2),ru h2];rfl
  ·have e1:hi a C=C:=by unfold hi;rw [ru h1];rfl
   have h2:bF D a=false:=by
    rw [<- Bool.not_eq_true,nR] at hCD ⊢;rw [nR] at h1;omega
   have e2:lo a D=a:=by unfold lo;rw [h2];rfl
   rw [e1,e2,if_neg (fun e=>by rw [e,Gz] at h1;cases h1),ru h1];rfl
theorem Pt.QV {a b:Pt} (h:a≠b):¬ (b.x-a.x=0/\b.y-a.y=0):=fun e=>h (Pt.ext_iff'.2 ⟨by omega,by omega⟩)
theorem aci {a b c:Pt} (h:fH [a,b,c]=true):fC a b c=0↔tw a b c=0:=by
 unfold fC Cb;rw [if_pos h];split
 · omega
 · split<;>omega
theorem acj {a b c d e f:Pt} (h1:fH [a,b,c]=true) (h2:fH [d,e,f]=true):fC a b c*fC d e f<=0↔(0<=tw a b c/\tw d e f<=0)\/(tw a b c<=0/\0<=tw d e f):=by
 unfold fC Cb;rw [if_pos h1,if_pos h2];generalize tw a b c=p;generalize tw d e f=q;split<;>split<;>(try split)<;>(try split)<;>simp<;>omega
theorem MX (a b c d:Pt):ku a b c d=ig a b c d:=by
 unfold ku ig;by_cases hn:fH [a,b,c,d]=true
 case neg => rw [if_neg hn,if_neg hn]
 rw [if_pos hn,if_pos hn];have hn':aW a=true/\aW b=true/\aW c=true/\aW d=true:=by simpa [fH] using hn
 obtain ⟨na,nb,nc,nd⟩:=hn';have nn:∀ p q r:Pt,aW p=true->aW q=true->aW r=true->fH [p,q,r]=true:=fun p q r h1 h2 h3=>by simp [fH,h1,h2,h3]
 unfold qg;by_cases hab:a=b
 ·subst hab;rw [if_pos rfl];have c0:aF a a c d=0:=by unfold aF;grind
  have c1:aF a a a c=0:=by unfold aF;grind
  have c2:aF a a a d=0:=by unfold aF;grind
  by_cases hcd:c=d
  ·subst hcd;have hon:fO c c a=decide (a=c):=by
    unfold fO tw;rw [nn c c a nc nc na,Bool.eq_iff_iff];simp only [Bool.and_eq_true,decide_eq_true_eq,Bool.true_and,Pt.ext_iff']
    grind
   rw [hon];by_cases hac:a=c
   ·subst hac;have hl:lo a a=a:=by simp [lo]
    have hh:hi a a=a:=by simp [hi]
    have:lM a a a a=1:=by rw [yY,hl,hh,hl];simp
    simp [c0,this]
   · simp [hac]
  ·rw [if_neg (show ¬ (a=a/\c=d/\¬ a=c) from fun e=>hcd e.2.1),if_pos c0];have ct:aF c d c a=tw c d a:=rfl;unfold fO;rw [nn c d a nc nd na];by_cases ht:tw c d a=0
   ·rw [if_pos (show aF a a a c=0/\aF a a a d=0/\aF c d c a=0/\aF c d c a=0 from ⟨c1,c2,ht,ht⟩),ach c d a hcd ht];simp only [ht,decide_true,Bool.true_and,Bool.and_eq_true,decide_eq_true_eq,and_assoc]
   ·rw [if_neg (show ¬ (aF a a a c=0/\aF a a a d=0/\aF c d c a=0/\aF c d c a=0) from fun e=>ht e.2.2.1)];simp [ht]
 rw [if_neg hab];by_cases hcd:c=d
 ·subst hcd;rw [if_pos rfl];have c0:aF a b c c=0:=by unfold aF;grind
  have c1:aF c c c a=0:=by unfold aF;grind
  have c2:aF c c c b=0:=by unfold aF;grind
  rw [if_neg (show ¬ (a=b/\c=c/\¬ a=c) from fun e=>hab e.1),if_pos c0];unfold fO;rw [nn a b c na nb nc];have ct:aF a b a c=tw a b c:=rfl;by_cases ht:tw a b c=0
  ·rw [if_pos (show aF a b a c=0/\aF a b a c=0/\aF c c c a=0/\aF c c c b=0 from ⟨ht,ht,c1,c2⟩),AP,ach a b c hab ht];simp only [ht,decide_true,Bool.true_and,Bool.and_eq_true,decide_eq_true_eq,and_assoc]
  ·rw [if_neg (show ¬ (aF a b a c=0/\aF a b a c=0/\aF c c c a=0/\aF c c c b=0) from fun e=>ht e.1)];simp [ht]
 rw [if_neg hcd,if_neg (show ¬ (a=b/\c=d/\¬ a=c) from fun e=>hab e.1)];have e1:aF a b a c=tw a b c:=rfl;have e2:aF a b a d=tw a b d:=rfl;have e0:aF a b c d=tw a b d-tw a b c:=by unfold aF tw;grind
 have es:aF a c c d=tw c d a:=by unfold aF tw;grind
 have es2:tw c d b=tw c d a-aF a b c d:=by unfold aF tw;grind
 have et:aF a c a b=- tw a b c:=by unfold aF tw;grind
 simp only [aci (nn a b c na nb nc),aci (nn a b d na nb nd)];by_cases hz:tw a b c=0/\tw a b d=0
 ·obtain ⟨z1,z2⟩:=hz;have p1:aF c d c a=0:=by
   unfold aF;refine parallel (Pt.QV hab) ?_ ?_
   · unfold tw at z1 z2;grind
   · unfold tw at z1 z2;grind
  have p2:aF c d c b=0:=by
   unfold aF;refine parallel (Pt.QV hab) ?_ ?_
   · unfold tw at z1 z2;grind
   · unfold tw at z1 z2;grind
  rw [if_pos (show tw a b c=0/\tw a b d=0 from ⟨z1,z2⟩),if_pos (show aF a b c d=0 by rw [e0,z1,z2];rfl),if_pos (show aF a b a c=0/\aF a b a d=0/\aF c d c a=0/\aF c d c b=0 from ⟨z1,z2,p1,p2⟩)]
 ·rw [if_neg hz];simp only [acj (nn a b c na nb nc) (nn a b d na nb nd),acj (nn c d a nc nd na) (nn c d b nc nd nb),es2,et,es];generalize aF a b c d=n at *;generalize tw c d a=s at *;by_cases hn0:n=0
  ·rw [if_pos hn0,if_neg (show ¬ (aF a b a c=0/\aF a b a d=0/\aF c d c a=0/\aF c d c b=0) from fun e=>hz ⟨e.1,e.2.1⟩),if_neg];omega
  ·rw [if_neg hn0];by_cases hneg:n<0
   ·rw [if_pos hneg];have:(((0<=tw a b c/\tw a b d<=0\/tw a b c<=0/\0<=tw a b d)/\(0<=s/\s-n<=0\/s<=0/\0<=s-n))↔(0<=-s/\-s<=-n/\0<=- -tw a b c/\- -tw a b c<=-n)):=by omega
    simp only [this]
   ·rw [if_neg hneg];have:(((0<=tw a b c/\tw a b d<=0\/tw a b c<=0/\0<=tw a b d)/\(0<=s/\s-n<=0\/s<=0/\0<=s-n))↔(0<=s/\s<=n/\0<=-tw a b c/\-tw a b c<=n)):=by omega
    simp only [this]
open Go.RowKit
structure Sg where
 arc:Ar
 i:Nat
 n:Nat
 a:Pt
 b:Pt
structure SV where
 a:Option Addr
 n:Nat
 c:Nat
def sgC (s:Sg×SV):List Value:=[.int .i64 s.1.arc.id,.int .i64 s.1.arc.fr,.int .i64 s.1.arc.dst,.slice s.2.a s.2.n s.2.c,.int .i64 s.1.arc.left,.int .i64 s.1.arc.right,.int .i64 s.1.i,.int .i64 s.1.n,.int .i64 s.1.a.x,.int .i64 s.1.a.y,.int .i64 s.1.b.x,.int .i64 s.1.b.y]
def GH (a:Ar) (id:Int):Bool:=a.fr == id || a.dst == id
def Ci (s t:Sg):Bool:=if t.i=s.i+1\/(s.i=0/\t.i+1=t.n/\s.arc.fr=s.arc.dst) then ig s.a s.b t.a t.b == 1 else ig s.a s.b t.a t.b == 0
def aH (x:SV):Value:=.slice x.a x.n x.c
def uX (n:Nat):DataW Unit:=.lit (.int .i64 (n:Int))
def Cj (x:SV):DataW Unit:=match x.a with
 | none=>.agg [uX x.n,uX x.c]
 | some ⟨b,o,none⟩=>.agg [uX b,uX o,uX x.n,uX x.c]
 | some ⟨_,_,some _⟩=>.agg []
def QW:Value->Option (DataW Unit×List MemPlace)
 | .slice none n c=>some (.agg [uX n,uX c],[])
 | .slice (some ⟨b,o,none⟩) n c=>some (.agg [uX b,uX o,uX n,uX c],[])
 | _=>none
theorem aju {v:Value} {x:SV} {ps:List MemPlace} (h:QW v=some (Cj x,ps)):v=aH x:=by
 obtain ⟨a,n,c⟩:=x;unfold QW at h;split at h
 ·rename_i n' c';unfold Cj at h;rcases a with _ | ⟨b,o,_ | q⟩
  ·simp only [Option.some.injEq,Prod.mk.injEq,DataW.agg.injEq,List.cons.injEq,uX,DataW.lit.injEq,Lit.int.injEq,and_true,true_and] at h;have h1:n'=n:=by omega
   have h2:c'=c:=by omega
   subst h1 h2;rfl
  · simp at h
  · simp at h
 ·rename_i b' o' n' c';unfold Cj at h;rcases a with _ | ⟨b,o,_ | q⟩
  · simp at h
  ·simp only [Option.some.injEq,Prod.mk.injEq,DataW.agg.injEq,List.cons.injEq,uX,DataW.lit.injEq,Lit.int.injEq,and_true,true_and] at h;have h1:b'=b:=by omega
   have h2:o'=o:=by omega
   have h3:n'=n:=by omega
   have h4:c'=c:=by omega
   subst h1 h2 h3 h4;rfl
  · simp at h
 · cases h
def SV.ok (x:SV):Prop:=x.a=none\/∃ b o,x.a=some ⟨b,o,none⟩
theorem ajv {x:SV} (h:x.ok):QW (aH x)=some (Cj x,[]):=by
 obtain ⟨a,n,c⟩:=x;rcases h with h | ⟨b,o,h⟩
 · simp only at h;subst h;rfl
 · simp only at h;subst h;rfl
def sv0:SV:=⟨none,0,0⟩
def oG (w:World) (b n:Nat) (f:Int->SV):Prop :=
 ∃ D:DataW Unit,w.ownsMap Tryz.prog 3 QW b n D/\Maps.IsMap D/\∀ id,D.atKey (.int .i64 id) (Cj sv0)=Cj (f id)
theorem oG.kept {w w':World} {b n:Nat} {f:Int->SV} (h:oG w b n f) {row:Option Nat} (hg:w.grownBy w' row) (hr:some b≠row):oG w' b n f:=by
 obtain ⟨D,h1,h2⟩:=h;exact ⟨D,h1.kept hg hr,h2⟩
theorem oG.keep {w w':World} {b n:Nat} {f:Int->SV} (h:oG w b n f) (hb:Below w.heap.size w w'):oG w' b n f :=
 h.kept (row:=none) ⟨hb.os,hb.tape,hb.output,hb.size,fun i hi _=>hb.block i hi⟩ (by simp)
theorem oG.lt {w:World} {b n:Nat} {f:Int->SV} (h:oG w b n f):b<w.heap.size:=by
 obtain ⟨D,h1,h2⟩:=h;exact h1.lt
theorem oG.made (w:World):oG (w.alloc (.map #[] 0)) w.heap.size 0 (fun _=>sv0) :=
 ⟨.map [],World.ownsMap_made _ _ _ _,⟨_,rfl⟩,fun _=>rfl⟩
theorem ajw (w:World):(zeroValue 46).run Tryz.prog w=.ok (.slice none 0 0) w:=by kernel_rfl
theorem oG.look {w:World} {b n:Nat} {f:Int->SV} (h:oG w b n f) (id:Int) (hid:dP id) :
  (Instr.lookup 78 (.map (some b)) (.int .i64 id) false).run Tryz.prog w=.ok (aH (f id)) w:=by
 obtain ⟨D,h1,-,h2⟩:=h;obtain ⟨v,ps,hr,hv⟩:=h1.lookup yS Tryz.underlying78 (ajw w) (zd:=Cj sv0) (zp:=[]) rfl (Maps.keyOf_int_mk Tryz.underlying3 hid);rw [h2] at hv;rw [hr,aju hv]
theorem oG.upd {w:World} {b n:Nat} {f:Int->SV} (h:oG w b n f) (hn:n<4294967296) (id:Int) (hid:dP id) (x:SV) (hx:x.ok) :
  ∃ w',(Instr.mapUpdate 78 (.map (some b)) (.int .i64 id) (aH x)).run Tryz.prog w=.ok () w'/\oG w' b (n+1) (fun i=>if i=id then x else f i)/\w.grownBy w' (some b):=by
 obtain ⟨D,h1,hm,h2⟩:=h;obtain ⟨w',hr,ho,hg⟩:=h1.update yS Tryz.underlying78 (by unfold maxLen;omega) (Maps.keyOf_int_mk Tryz.underlying3 hid) (val:=aH x) (d:=Cj x) (ps:=[]) (ajv hx);refine ⟨w',hr,⟨_,ho,?_,fun i=>?_⟩,hg⟩
 · obtain ⟨es,rfl⟩:=hm;exact ⟨_,rfl⟩
 ·show _=Cj (if i=id then x else f i)
  by_cases e:i=id
  ·subst e;rw [if_pos rfl];exact Maps.atKey_put_same hm (by trivial) _ _
  · rw [if_neg e,Maps.atKey_put_other (fun h=>e (by injection h)),h2]
theorem ajx {n:Nat} (h:n<=8796093022208):n<=maxLen:=by
 have:maxLen=9223372036854775807:=rfl
 omega
def GI (p:Pl):Prop:=∀ a∈p.ah,a.via.length<=8796093022208
theorem ajy {P:Program} (w:World) {ops:Array Oper} {rest:List Oper} {o:Oper} {a:Act} {Q:Exit->Act->World->Prop} (hgd:o.guard=none) (s x:Operand) (t:TypeId)
  (ho:o.op=.call {callee:=.builtin .append,args:=#[s,x],argTypes:=#[t,t]})
  {α:Type} {f:α->List Value} {base:Nat} {e:TypeId} {size bytes:Nat} (hE:Elem P t e size bytes) (hf:∀ a,(f a).length=size) (hone:∀ a,∀ u∈f a,u.oneCell'=true)
  {v:Value} {l:List α} (hs:a.eval s=v) (hown:Own w base e size f v l)
  {src:Value} {l2:List α} (hx:a.eval x=src) (hr:Sl w src l2.length (l2.flatMap f))
  (hbytes:(l.length+l2.length)*bytes<=140737488355328) (h32:l.length+l2.length<=8796093022208) (hbase:base<=w.heap.size)
  (h:∀ v' w',Own w' base e size f v' (l++l2)->w.grownBy w' v.ownBlock->(v'.ownBlock=v.ownBlock\/v'.ownBlock=some w.heap.size)->wpList P ops Q rest (a.put o.dst v') w'):wpList P ops Q (o::rest) a w:=by
 obtain ⟨ht,i,z,hi,hz,hsize,hby,hzs,hsz⟩:=hE;refine aby w hgd s x t ho base e i z size bytes ht hi hz hsize hby hzs hsz v l.length (l.flatMap f) hs hown src l2.length (l2.flatMap f) hx hr (flat_length f size hf l2)
  (fun u hu=>?_) (ajx h32) hbytes hbase (fun v' w' h1 h2 h3=>h v' w' ?_ h2 h3)
 ·obtain ⟨a,_,hu⟩:=List.mem_flatMap.1 hu;exact hone a u hu
 ·unfold Own;rw [List.length_append,List.flatMap_append];exact h1
set_option maxHeartbeats 400000 in
theorem ajz (v:Value) (l:List Pt) (w:World) (h:gG w v l) (hl:l.length<=8796093022208) :
  Calls Tryz.prog 114 #[v] w (QM w l):=by
 have H:=h;obtain ⟨A,c,rfl,hn,hc,hR⟩:=h;have hE:=Lib.run_eql_slice_nil (P:=Tryz.prog) (t:=46) (e:=39);rcases A with _ | ad
 ·have hl0:l=[]:=by
   rcases l with _ | ⟨a,l⟩
   · rfl
   ·obtain ⟨b,o,e,_⟩:=hR (by simp [iV])
    cases e
  subst hl0;clear hR H;simp only [List.length_nil] at hn ⊢;have hE1:∀ W:World,(binOp .eql 46 (.slice none 0 c) (.slice none 0 0)).run Tryz.prog W=.ok (.bool true) W:=fun W=>Lib.run_eql_slice_nil W _ 39 none _ c 0 0 Tryz.underlying46;clear hE;go_enter Tryz.func114,Tryz.ntmps114;go_wp2;go_ret;exact ⟨_,_,rfl,bR w,Own.nil _ _ _ _ _⟩
 ·have hE1:∀ W:World,(binOp .eql 46 (.slice (some ad) l.length c) (.slice none 0 0)).run Tryz.prog W=.ok (.bool false) W:=fun W=>Lib.run_eql_slice_nil W _ 39 (some ad) _ c 0 0 Tryz.underlying46;clear hE hR;have HH:=Lib.hid H;clear H;go_enter Tryz.func114,Tryz.ntmps114;go_wp2_with
   (at_builtin
    refine ajy _ rfl (.tmp 5) (.tmp 6) _ rfl (base:=w.heap.size) Jp F9 Jq rfl (Own.lit _ _ _ _ iV [] _ 0 _ rfl rfl (Nat.le_refl _) (dW (by omega)) rfl rfl) rfl (HH.out.mono (bA (bR w) _)) (by simp only [List.length_nil];omega) (by simp only [List.length_nil];omega) (by simp) ?_;intro v1 w1 hown hg hat)
  go_ret;obtain ⟨A1,c1,rfl,-⟩:=Own.sl hown;simp only [List.nil_append] at hown ⊢;exact ⟨A1,c1,rfl,bG (bA (bR w) _) hg (fun k hk=>by have:w.heap.size=k:=Option.some.inj hk;omega),hown⟩
set_option maxHeartbeats 4000000 in
theorem ajA (v:Value) (p:Pl) (id:Int) (w:World) (h:dS w v p) (hsh:GI p) :
  Calls Tryz.prog 73 #[v,.int .i64 id] w (QN w (findAr p.ah id)):=by
 obtain ⟨vn,_,vf,al,rfl,hpa,-,⟨⟨An,cn,rfl,hn1,hn2,hR⟩,hV⟩,-⟩:=h;unfold maxLen at hn2;unfold GI at hsh;rw [hpa] at hsh ⊢;clear hpa;have hsh':∀ k (hk:k<al.length),al[k].1.via.length<=8796093022208:=fun k hk=>hsh _ (List.mem_map_of_mem (List.getElem_mem hk));have HV:=Lib.hid hV;clear hV hsh;have eu:=Lib.hid hsh';clear hsh';go_enter Tryz.func73,Tryz.ntmps73;go_wp2_with fail;go_loopw [11] (fun i wr=>∃ k:Nat,k<=al.length/\i=.int .i64 k/\Below w.heap.size w wr/\aj wr (w.heap.size+1) 50 #[.int .i64 0,.int .i64 0,.int .i64 0,.slice none 0 0,.int .i64 0,.int .i64 0]/\∀ j (hj:j<al.length),j<k->(al[j].1.id == id)=false) (fun i _=>al.length-(intOf i).toNat)
 case atStart => exact ⟨0,Nat.zero_le _,rfl,bA (bA (bR w) _) _,aj.made (by simp) _ _,fun j _ h=>by omega⟩
 case round =>
  obtain ⟨k,hk,rfl,hb,X4,hno⟩:=hrel;have Hb:=Lib.hid hb;have Hno:=Lib.hid hno;clear hb hno;obtain ⟨cZ,dh,eF,jw,yc,Aj,Ak,eG,iY,lu,yg,Au,Aw⟩:=X4.kZ;by_cases hlt:k<al.length
  ·obtain ⟨b,o,rfl,hlb,c0,c1,c2,c3,c4,c5⟩:=(hR.mono Hb.out).ar hlt;have HR:=Lib.hid hR;clear hR;have hvk:=(HV.out k hlt);obtain ⟨Av,cv,hv,-⟩:=hvk;have hvk:=(HV.out k hlt);rw [hv] at c3 hvk;generalize hvl:al[k].1.via.length=vl at *;have Hvl:=Lib.hid hvl;have MV:=Lib.hid hvk;clear hvk hv hvl
   cases he:(al[k].1.id == id)
   ·go_wp2;go_roundw
    case rel => exact ⟨k+1,by omega,by go_num,bA Hb.out _,X4.alloc _,all_succ (p:=fun x=>(x.1.id == id)=false) Hno.out hlt he⟩
    case measure => simp [intOf];omega
   ·have hf:=abZ al id k hlt Hno.out he;have Hf:=Lib.hid hf;clear hf;go_wp2_with fail;refine (ajz _ _ _ (MV.out.mono (bA Hb.out _)) (eu.out k hlt)).mono ?_;rintro e w1 ⟨A1,wO,rfl,hb1,hown⟩;have Bw:Below w.heap.size w w1:=bT (bA Hb.out _) hb1;have X7:aj w1 wr.heap.size 50 #[.int .i64 al[k].1.id,.int .i64 al[k].1.fr,.int .i64 al[k].1.dst,.slice Av vl cv,.int .i64 al[k].1.left,.int .i64 al[k].1.right]:=(aj.made rfl _ _).keep hb1;have hw8:w.heap.size+1<wr.heap.size:=by omega
    have hw7:w.heap.size+1≠wr.heap.size:=by omega
    replace X4:=(X4.alloc _).keep hb1;have hown':=hown.iW (b':=wr.heap.size+1) (by simp);have hP:=Own.sl hown;have kD:=Lib.hid hown';clear hb1 c0 c1 c2 c3 c4 c5 hlb hown hown' hP
    try clear cZ
    try clear dh
    try clear eF
    try clear jw
    try clear yc
    try clear Aj
    try clear Ak
    try clear eG
    try clear iY
    try clear lu
    try clear yg
    try clear Au
    try clear Aw
    obtain ⟨cZ,dh,eF,jw,yc,Aj,Ak,eG,iY,lu,yg,Au,Aw⟩:=X4.kZ;obtain ⟨jJ,jK,qY,X7c,X7d,X7e,X7f,ai6,ai7,ai8,ai9,aja,ajb⟩:=X7.kZ;go_wp2_with fail;have QO:=Hb.out.size;have Wv:(Value.slice A1 al[k].1.via.length wO).ownBlock≠some wr.heap.size:=fun e=>by have:=(kD.out.lt _ e).1;omega
    have wP:(Value.slice A1 al[k].1.via.length wO).ownBlock≠some (w.heap.size+1):=fun e=>by have:=(kD.out.lt _ e).1;omega
    have HP:=Own.sl (((((((kD.out.far (p:=⟨wr.heap.size,3,none⟩) Wv (.slice A1 al[k].1.via.length wO)).far (p:=⟨w.heap.size+1,0,none⟩) wP (.int .i64 al[k].1.id)).far (p:=⟨w.heap.size+1,1,none⟩) wP (.int .i64 al[k].1.fr)).far (p:=⟨w.heap.size+1,2,none⟩) wP (.int .i64 al[k].1.dst)).far (p:=⟨w.heap.size+1,3,none⟩) wP (.slice A1 al[k].1.via.length wO)).far (p:=⟨w.heap.size+1,4,none⟩) wP (.int .i64 al[k].1.left)).far (p:=⟨w.heap.size+1,5,none⟩) wP (.int .i64 al[k].1.right));refine su (g:=w.heap.size+1) (cs:=#[.int .i64 al[k].1.id,.int .i64 al[k].1.fr,.int .i64 al[k].1.dst,.slice A1 al[k].1.via.length wO,.int .i64 al[k].1.left,.int .i64 al[k].1.right]) rfl Gi rfl rfl (aj.Gg (X4.far (p:=⟨wr.heap.size,3,none⟩) hw7 _)) ⟨.slice A1 al[k].1.via.length wO,by rw [Hf.out];rfl,?_,by rw [Hf.out];exact HP⟩
    repeat (first | with_reducible exact bR _ | with_reducible assumption | with_reducible refine bA ?_ _ | with_reducible refine bD ?_ | with_reducible refine bN ?_ _ | ((with_reducible refine bS ?_ ?_ _);rotate_left;(simp;try omega)) | ((with_reducible refine bT ?_ ?_);rotate_left;with_reducible assumption) | with_reducible refine bT ?_ (by assumption))
  ·have hf:=ab1 al id (fun j hj=>Hno.out j hj (by omega));have Hf:=Lib.hid hf;clear hf;go_wp2;have Bw:=Hb.out;refine su (g:=w.heap.size+1) (cs:=#[.int .i64 0,.int .i64 0,.int .i64 0,.slice none 0 0,.int .i64 0,.int .i64 0]) rfl Gi rfl rfl (aj.Gg X4) ⟨.slice none 0 0,by rw [Hf.out];rfl,?_,by rw [Hf.out];exact Sl.nil _⟩
   repeat (first | with_reducible exact bR _ | with_reducible assumption | with_reducible refine bA ?_ _ | with_reducible refine bD ?_ | with_reducible refine bN ?_ _ | ((with_reducible refine bS ?_ ?_ _);rotate_left;(simp;try omega)) | ((with_reducible refine bT ?_ ?_);rotate_left;with_reducible assumption) | with_reducible refine bT ?_ (by assumption))
def yZ (o p:Pt):Bool:=decide (p.y<o.y) || (decide (p.y=o.y) && decide (p.x<o.x))
def wS (o a b:Pt):Bool:=fH [o,a,b] && (!decide (a=o) && (!decide (b=o) && (if yZ o a=yZ o b then decide (0<tw o a b) else yZ o b)))
def jW (x y:Int):Prop:=y<0\/(y=0/\x<0)
def rC (ux uy vx vy:Int):Prop:=(¬ jW ux uy/\jW vx vy)\/((jW ux uy↔jW vx vy)/\0<ux*vy-uy*vx)
theorem ajB (ux uy:Int):¬ rC ux uy ux uy:=by
 rintro (⟨h1,h2⟩ | ⟨-,h⟩)
 · exact h1 h2
 · rw [Int.mul_comm uy ux] at h;omega
theorem three (ux uy vx vy wx wy:Int):vy*(ux*wy-uy*wx)=uy*(vx*wy-vy*wx)+wy*(ux*vy-uy*vx):=by grind
theorem acn {v A:Int} (hv:0<v) (h:0<v*A):0<A:=by
 rcases Int.lt_or_le 0 A with h1 | h1
 · exact h1
 · have:=Int.mul_nonpos_of_nonneg_of_nonpos (Int.le_of_lt hv) h1;omega
theorem ajC {v A:Int} (hv:0<v) (h:0<=v*A):0<=A:=by
 rcases Int.lt_or_le A 0 with h1 | h1
 · have:=Int.mul_neg_of_pos_of_neg hv h1;omega
 · exact h1
def Ee (x y:Int):Prop:=0<y\/(y=0/\0<x)
theorem aco {ux uy vx vy wx wy:Int} (hu:Ee ux uy) (hv:Ee vx vy) (hw:Ee wx wy) (h1:0<=ux*vy-uy*vx) (h2:0<=vx*wy-vy*wx) :
  0<=ux*wy-uy*wx/\(0<ux*vy-uy*vx\/0<vx*wy-vy*wx->0<ux*wy-uy*wx):=by
 have e:=three ux uy vx vy wx wy;unfold Ee at *;rcases hv with hv | ⟨rfl,hv⟩
 ·have hw':0<wy:=by
   rcases hw with hw | ⟨rfl,hw⟩
   · exact hw
   ·have:=Int.mul_pos hv hw
    rw [Int.mul_zero] at h2;omega
  have a1:0<=uy*(vx*wy-vy*wx):=Int.mul_nonneg (by omega) h2;have a2:0<=wy*(ux*vy-uy*vx):=Int.mul_nonneg (by omega) h1;refine ⟨ajC hv (by omega),fun h=>acn hv ?_⟩;rcases h with h | h
  · have:=Int.mul_pos hw' h;omega
  ·rcases hu with hu | ⟨rfl,hu⟩
   · have:=Int.mul_pos hu h;omega
   ·have h3:=Int.mul_pos hu hv;have:=Int.mul_pos hw' (show 0<ux*vy-0*vx by rw [Int.zero_mul];omega)
    omega
 ·have hu':uy=0:=by
   rcases hu with hu | ⟨hu,-⟩
   ·have:=Int.mul_pos hu hv
    rw [Int.mul_zero] at h1;omega
   · exact hu
  subst hu';have hu2:0<ux:=by omega
  rw [Int.zero_mul] at h2 ⊢;rw [Int.zero_mul,Int.mul_zero];have hwy:0<=wy:=by omega
  have a1:=Int.mul_nonneg (Int.le_of_lt hu2) hwy;refine ⟨by omega,fun h=>?_⟩;rcases h with h | h
  · omega
  ·have:0<wy:=acn hv (by omega)
   have:=Int.mul_pos hu2 this
   omega
theorem WJ {x y:Int} (h0:¬ (x=0/\y=0)):¬ jW x y↔Ee x y:=by
 unfold jW Ee;omega
theorem WL {x y:Int}:jW x y↔Ee (-x) (-y):=by
 unfold jW Ee;omega
theorem acp {ux uy vx vy wx wy:Int} (hu:¬ (ux=0/\uy=0)) (hv:¬ (vx=0/\vy=0)) (hw:¬ (wx=0/\wy=0)) (huv:jW ux uy↔jW vx vy) (hvw:jW vx vy↔jW wx wy) (h1:0<=ux*vy-uy*vx) (h2:0<=vx*wy-vy*wx) :
  0<=ux*wy-uy*wx/\(0<ux*vy-uy*vx\/0<vx*wy-vy*wx->0<ux*wy-uy*wx):=by
 by_cases hl:jW vx vy
 ·have:=aco (WL.1 (huv.2 hl)) (WL.1 hl) (WL.1 (hvw.1 hl))
  simp only [Int.neg_mul_neg] at this;exact this h1 h2
 · exact aco ((WJ hu).1 (fun h=>hl (huv.1 h))) ((WJ hv).1 hl) ((WJ hw).1 (fun h=>hl (hvw.2 h))) h1 h2
theorem ajD {ux uy vx vy wx wy:Int} (hu:¬ (ux=0/\uy=0)) (hv:¬ (vx=0/\vy=0)) (hw:¬ (wx=0/\wy=0)) (h1:rC ux uy vx vy) (h2:rC vx vy wx wy):rC ux uy wx wy:=by
 unfold rC at *;rcases h1 with ⟨a1,a2⟩ | ⟨a1,a2⟩
 ·rcases h2 with ⟨b1,b2⟩ | ⟨b1,b2⟩
  · exact absurd a2 b1
  · exact .inl ⟨a1,b1.1 a2⟩
 ·rcases h2 with ⟨b1,b2⟩ | ⟨b1,b2⟩
  · exact .inl ⟨fun h=>b1 (a1.1 h),b2⟩
  · exact .inr ⟨a1.trans b1,(acp hu hv hw a1 b1 (by omega) (by omega)).2 (.inl a2)⟩
theorem ajE {ux uy vx vy wx wy:Int} (hu:¬ (ux=0/\uy=0)) (hv:¬ (vx=0/\vy=0)) (hw:¬ (wx=0/\wy=0)) (h1:¬ rC ux uy vx vy) (h2:¬ rC vx vy wx wy):¬ rC ux uy wx wy:=by
 have key:∀ {ax ay bx b:Int},¬ rC ax ay bx b->(jW ax ay/\¬ jW bx b)\/((jW bx b↔jW ax ay)/\0<=bx*ay-b*ax):=by
  intro ax ay bx b h;unfold rC at h;by_cases l1:jW ax ay
  ·by_cases l2:jW bx b
   ·refine .inr ⟨by simp [l1,l2],?_⟩;rw [Int.mul_comm bx,Int.mul_comm b];rcases Int.lt_or_le (ay*bx-ax*b) 0 with h3 | h3
    · exact absurd (.inr ⟨by simp [l1,l2],by omega⟩) h
    · exact h3
   · exact .inl ⟨l1,l2⟩
  ·by_cases l2:jW bx b
   · exact absurd (.inl ⟨l1,l2⟩) h
   ·refine .inr ⟨by simp [l1,l2],?_⟩;rw [Int.mul_comm bx,Int.mul_comm b];rcases Int.lt_or_le (ay*bx-ax*b) 0 with h3 | h3
    · exact absurd (.inr ⟨by simp [l1,l2],by omega⟩) h
    · exact h3
 intro h3;rcases key h1 with ⟨a1,a2⟩ | ⟨a1,a2⟩
 ·rcases key h2 with ⟨b1,b2⟩ | ⟨b1,b2⟩
  · exact a2 b1
  ·rcases h3 with ⟨c1,c2⟩ | ⟨c1,c2⟩
   · exact c1 a1
   · exact a2 (b1.1 (c1.1 a1))
 ·rcases key h2 with ⟨b1,b2⟩ | ⟨b1,b2⟩
  ·rcases h3 with ⟨c1,c2⟩ | ⟨c1,c2⟩
   · exact c1 (a1.1 b1)
   · exact b2 (c1.1 (a1.1 b1))
  ·rcases h3 with ⟨c1,c2⟩ | ⟨c1,c2⟩
   · exact c1 (a1.1 (b1.1 c2))
   ·have:=(acp hw hv hu b1 a1 b2 a2).1
    rw [Int.mul_comm wx,Int.mul_comm wy] at this;omega
theorem acr (o p:Pt):yZ o p=true↔jW (p.x-o.x) (p.y-o.y):=by
 unfold yZ jW;simp only [Bool.or_eq_true,Bool.and_eq_true,decide_eq_true_eq];omega
theorem WM {a o:Pt}:a≠o↔¬ (a.x-o.x=0/\a.y-o.y=0):=by
 rw [Ne,Pt.ext_iff'];omega
def dV (o a b:Pt):Prop:=rC (a.x-o.x) (a.y-o.y) (b.x-o.x) (b.y-o.y)
theorem acs (o a b:Pt):wS o a b=true↔fH [o,a,b]=true/\a≠o/\b≠o/\dV o a b:=by
 unfold wS;simp only [Bool.and_eq_true,Bool.not_eq_true',decide_eq_false_iff_not];refine and_congr_right fun _=>and_congr_right fun _=>and_congr_right fun _=>?_;unfold dV rC;rw [<- acr,<- acr]
 show _↔_\/(_/\0<tw o a b)
 cases yZ o a<;>cases yZ o b<;>simp
def Ef (s t:Sg) (x:Nd):Bool:=GH s.arc x.id && GH t.arc x.id && qX s.a s.b x.pt && qX t.a t.b x.pt
def sH (p:Pl) (s t:Sg):Bool:=if ig s.a s.b t.a t.b=1 then p.nodes.any (Ef s t) else ig s.a s.b t.a t.b == 0
def WO (s:Sg) (x:Nd):Bool:=(((s.i:Int) == 0) && (s.arc.fr == x.id)) || (((s.i:Int) == (s.n:Int)-1) && (s.arc.dst == x.id))
def MZ (s:Sg) (x:Nd):Bool:=WO s x || !qX s.a s.b x.pt
def Na (s:Sg):Bool:=!decide (s.a=s.b) && (s.arc.fr != s.arc.dst || decide (3<=(s.n:Int)))
def Eh (p:Pl) (s:Sg):Bool:=p.nodes.all (MZ s) && Na s
theorem Nb {α:Type} (l:List α) (q:α->Bool) (k:Nat) (hk:k<l.length) (h:q l[k]=false):l.all q=false:=List.all_eq_false.2 ⟨l[k],List.getElem_mem hk,by simp [h]⟩
theorem WQ {α:Type} (l:List α) (q:α->Bool) (h:∀ j (hj:j<l.length),q l[j]=true):l.all q=true:=List.all_eq_true.2 fun x hx=>by
 obtain ⟨i,hi,rfl⟩:=List.mem_iff_getElem.1 hx;exact h i hi
section
variable {α β:Type} {w w':World} {base base':Nat} {e e':TypeId} {size size':Nat} {f:α->List Value} {f':β->List Value} {v v':Value} {l:List α} {l':List β}
theorem Own.grown (h:Own w base e size f v l) {row:Option Nat} (hg:w.grownBy w' row) (hne:∀ g,v.ownBlock=some g->some g≠row):Own w' base e size f v l:=by
 obtain ⟨h1,h2⟩:=h;refine ⟨h1,?_⟩;rcases h2 with h2 | ⟨g,cap,cur,hv,hg',hh,r⟩
 · exact .inl h2
 ·subst hv;refine .inr ⟨g,cap,cur,rfl,hg',?_,r⟩;exact aj.grown (t:=e) (cs:=cur) hh hg (hne g rfl)
theorem Own.blk (h:Own w base e size f v l) {g:Nat} (hg:v.ownBlock=some g):∃ cs,aj w g e cs:=by
 rcases h.2 with ⟨rfl,_⟩ | ⟨g',cap,cur,rfl,_,hh,_⟩
 · simp [Value.ownBlock] at hg
 ·have:g'=g:=by simpa [Value.ownBlock] using hg
  subst this;exact ⟨_,hh⟩
theorem Own.apart (h:Own w base e size f v l) (h':Own w base' e' size' f' v' l') (hne:e≠e'):∀ g,v.ownBlock=some g->some g≠v'.ownBlock:=by
 intro g hg hg';obtain ⟨cs,h1⟩:=h.blk hg;obtain ⟨cs',h2⟩:=h'.blk hg'.symm;exact aj.nD h1 h2 hne rfl
end
def aB:Pt:=⟨0,0⟩
def Ei (a:Ar) (l:List Pt):List Sg:=(List.range (l.length-1)).map fun k=>⟨a,k,l.length-1,l.getD k aB,l.getD (k+1) aB⟩
def Nc (p:Pl):List Sg:=p.ah.flatMap fun a=>Ei a (au p a)
theorem fJ (p:Pl) (a:Ar):(au p a).length=a.via.length+2:=by simp [au]
def Ej {α:Type} (l:List α) (f:α->Bool) (g:α->α->Bool):Bool:=(List.range l.length).all fun i=>match l[i]? with
 | none=>true
 | some t=>f t && (l.take i).all fun s=>g s t
theorem ajF {α:Type} (l:List α) (f:α->Bool) (g:α->α->Bool) (i:Nat) (hi:i<l.length) (h:f l[i]=false):Ej l f g=false:=by
 unfold Ej;rw [List.all_eq_false];exact ⟨i,List.mem_range.2 hi,by simp [List.getElem?_eq_getElem hi,h]⟩
theorem ajG {α:Type} (l:List α) (f:α->Bool) (g:α->α->Bool) (i k:Nat) (hk:k<i) (hi:i<l.length) (h:g (l[k]'(by omega)) l[i]=false):Ej l f g=false:=by
 unfold Ej;rw [List.all_eq_false];refine ⟨i,List.mem_range.2 hi,?_⟩;have:(l.take i).all (fun s=>g s l[i])=false:=by
  rw [List.all_eq_false];refine ⟨l[k]'(by omega),?_,by simp [h]⟩;rw [List.mem_iff_getElem];exact ⟨k,by rw [List.length_take];omega,by simp⟩
 simp [List.getElem?_eq_getElem hi,this]
theorem ajH {α:Type} (l:List α) (f:α->Bool) (g:α->α->Bool) (h1:∀ i (hi:i<l.length),f l[i]=true) (h2:∀ i k (hk:k<i) (hi:i<l.length),g (l[k]'(by omega)) l[i]=true):Ej l f g=true:=by
 unfold Ej;rw [List.all_eq_true];intro i hi;have hi:=List.mem_range.1 hi;rw [List.getElem?_eq_getElem hi];simp only [Bool.and_eq_true];refine ⟨h1 i hi,List.all_eq_true.2 fun s hs=>?_⟩;obtain ⟨k,hk,rfl⟩:=List.mem_iff_getElem.1 hs;rw [List.length_take] at hk;have:=h2 i k (by omega) hi
 simpa using this
def AQ (p:Pl) (s t:Sg):Bool:=if s.arc.id=t.arc.id then Ci s t else sH p s t
def sJ (p:Pl):Bool:=Ej (Nc p) (Eh p) (AQ p)
theorem Row.sg {w:World} {A:Option Addr} {l:List (Sg×SV)} (h:Row w A (l.flatMap sgC)) {k:Nat} (hk:k<l.length) :
  ∃ b o,A=some ⟨b,o,none⟩/\b<w.heap.size/\w.cell? ⟨b,o+k*12,none⟩=some (.int .i64 l[k].1.arc.id)/\w.cell? ⟨b,o+k*12+1,none⟩=some (.int .i64 l[k].1.arc.fr)/\w.cell? ⟨b,o+k*12+2,none⟩=some (.int .i64 l[k].1.arc.dst)/\w.cell? ⟨b,o+k*12+3,none⟩=some (.slice l[k].2.a l[k].2.n l[k].2.c)/\w.cell? ⟨b,o+k*12+4,none⟩=some (.int .i64 l[k].1.arc.left)/\w.cell? ⟨b,o+k*12+5,none⟩=some (.int .i64 l[k].1.arc.right)/\w.cell? ⟨b,o+k*12+6,none⟩=some (.int .i64 l[k].1.i)/\w.cell? ⟨b,o+k*12+7,none⟩=some (.int .i64 l[k].1.n)/\w.cell? ⟨b,o+k*12+8,none⟩=some (.int .i64 l[k].1.a.x)/\w.cell? ⟨b,o+k*12+9,none⟩=some (.int .i64 l[k].1.a.y)/\w.cell? ⟨b,o+k*12+10,none⟩=some (.int .i64 l[k].1.b.x)/\w.cell? ⟨b,o+k*12+11,none⟩=some (.int .i64 l[k].1.b.y):=by
 obtain ⟨b,o,hA,hb,hc⟩:=h.at_ (n:=12) (fun _=>rfl) hk (by omega);exact ⟨b,o,hA,hb,hc 0 _ rfl,hc 1 _ rfl,hc 2 _ rfl,hc 3 _ rfl,hc 4 _ rfl,hc 5 _ rfl,hc 6 _ rfl,hc 7 _ rfl,hc 8 _ rfl,hc 9 _ rfl,hc 10 _ rfl,hc 11 _ rfl⟩
def y7 (p:Pl):Bool:=uU (p.nodes.map (·.id)) && uU (p.ah.map (·.id)) && uU p.faces
def GK (p:Pl):Bool:=p.ah.all fun a=>jy p.faces a.left && jy p.faces a.right
def oH (p:Pl):Int :=
 if nN p=true then 3 else if y7 p=false then 10 else if wQ p=false then 2 else if AB (p.nodes.map (·.pt))=true then 8
 else if p.ah.all (qZ p)=false then 7 else if GK p=false then 12 else if sJ p=false then 11 else 0
theorem QX {α β:Type} (l:List α) (f:α->List β) (n:Nat) (h:∀ a∈l,(f a).length<=n):(l.flatMap f).length<=l.length*n:=by
 induction l with
 | nil=>simp
 | cons a l ih =>
  simp only [List.flatMap_cons,List.length_append,List.length_cons,Nat.succ_mul];have:=h a (by simp)
  have:=ih fun b hb=>h b (by simp [hb])
  omega
theorem QY {p:Pl} (h:nN p=false):(∀ a∈p.ah,a.via.length<=64)/\p.nodes.length<=256/\p.ah.length<=256/\p.faces.length<=64/\(p.ah.flatMap (·.via)).length<=16384:=by
 unfold nN at h;simp only [Bool.or_eq_false_iff,decide_eq_false_iff_not,List.any_eq_false,decide_eq_true_eq] at h;obtain ⟨h1,⟨h2,h3⟩,h4⟩:=h;have h5:∀ a∈p.ah,a.via.length<=64:=fun a ha=>by have:=h1 a ha;omega
 have h6:=QX p.ah (·.via) 64 h5;refine ⟨h5,by omega,by omega,by omega,by omega⟩
end Go.Proofs.YtialfdomhoojiaaGreat
