import Derived.Test.YtialfdomhoojiaaGreatJ12
set_option linter.unusedSimpArgs false
set_option linter.unusedVariables false
namespace Go.Proofs.YtialfdomhoojiaaGreat
open Go.RowKit
theorem am5 {p q:Pt} {dx dy:Int} (hN:0<8388608*dy+dx) (e:(q.x-p.x)*dy=(q.y-p.y)*dx) :
  (0<=dx->(bF p q=true↔hY p<hY q))/\(dx<0->(bF p q=true↔hY q<hY p)):=by
 have k:(8388608*(q.y-p.y)+(q.x-p.x))*dx=(q.x-p.x)*(8388608*dy+dx):=by grind
 have hd:hY q-hY p=8388608*(q.y-p.y)+(q.x-p.x):=by unfold hY;omega
 rw [<- hd] at k;have z:q.x-p.x=0->dx≠0->q.y-p.y=0:=fun h0 h1=>by
  rw [h0,Int.zero_mul] at e;rcases Int.mul_eq_zero.1 e.symm with h2 | h2
  · exact h2
  · exact absurd h2 h1
 rw [oP];generalize 8388608*dy+dx=N at *;generalize hu:q.x-p.x=u at *;have s1:0<u->0<u*N:=fun h=>Int.mul_pos h hN;have s2:u<0->u*N<0:=fun h=>Int.mul_neg_of_neg_of_pos h hN;have s3:u=0->u*N=0:=fun h=>by rw [h,Int.zero_mul]
 refine ⟨fun h=>?_,fun h=>?_⟩
 ·by_cases h0:dx=0
  ·subst h0;have hu0:u=0:=by
    rcases Int.lt_trichotomy u 0 with g | g | g
    · have:=s2 g;omega
    · exact g
    · have:=s1 g;omega
   unfold hY at *;omega
  ·have hp:0<dx:=by omega
   have t1:0<hY q-hY p->0<(hY q-hY p)*dx:=fun h=>Int.mul_pos h hp;have t2:hY q-hY p<0->(hY q-hY p)*dx<0:=fun h=>Int.mul_neg_of_neg_of_pos h hp;have t3:hY q-hY p=0->(hY q-hY p)*dx=0:=fun h=>by rw [h,Int.zero_mul]
   omega
 ·have t1:0<hY q-hY p->(hY q-hY p)*dx<0:=fun g=>Int.mul_neg_of_pos_of_neg g h;have t2:hY q-hY p<0->0<(hY q-hY p)*dx:=fun g=>Int.mul_pos_of_neg_of_neg g h;have t3:hY q-hY p=0->(hY q-hY p)*dx=0:=fun h=>by rw [h,Int.zero_mul]
  omega
theorem afN {X Y:Pt} (h:bF X Y=true):(if X=Y then (1:Int) else if bF X Y then 2 else 0)=2:=by
 rw [if_neg (fun e=>by rw [e,Kr] at h;cases h),if_pos h]
theorem am6 {a b s t:Pt} (hab:hY a<hY b) (hst:hY s<hY t) (h1:tw a b s=0) (h2:tw a b t=0) (h3:hY s<hY b) (h4:hY a<hY t):mO a b s t=2:=by
 have hN:0<8388608*(b.y-a.y)+(b.x-a.x):=by unfold hY at hab;omega
 have ln:∀ {p q:Pt},tw a b p=0->tw a b q=0->(q.x-p.x)*(b.y-a.y)=(q.y-p.y)*(b.x-a.x):=by
  intro p q hp hq
  have:tw a b q-tw a b p=(b.x-a.x)*(q.y-p.y)-(b.y-a.y)*(q.x-p.x):=by unfold tw;grind
  rw [hp,hq] at this;rw [Int.mul_comm (q.x-p.x),Int.mul_comm (q.y-p.y)];omega
 have B:∀ {p q:Pt},tw a b p=0->tw a b q=0->_:=fun hp hq=>am5 hN (ln hp hq);have ha:=FW a b;have hb:=FX a b;have Bba:=B hb ha;have Bts:=B h2 h1;have Bsa:=B h1 ha;have Btb:=B h2 hb;have Bab:=B ha hb;have Bat:=B ha h2;have Bsb:=B h1 hb;have Bst:=B h1 h2;have Bta:=B h2 ha;have Bbs:=B hb h1;rw [CX];by_cases hx:0<=b.x-a.x
 ·have e1:bF b a=false:=by rw [<- Bool.not_eq_true,Bba.1 hx];omega
  have e2:bF t s=false:=by rw [<- Bool.not_eq_true,Bts.1 hx];omega
  have l1:lo a b=a:=by unfold lo;rw [e1];simp
  have l2:hi a b=b:=by unfold hi;rw [e1];simp
  have l3:lo s t=s:=by unfold lo;rw [e2];simp
  have l4:hi s t=t:=by unfold hi;rw [e2];simp
  rw [l1,l2,l3,l4];unfold hi lo;refine afN ?_
  cases e3:bF s a<;>cases e4:bF t b<;>simp only [Bool.false_eq_true,if_true,if_false]
  · exact (Bsb.1 hx).2 h3
  · exact (Bst.1 hx).2 hst
  · exact (Bab.1 hx).2 hab
  · exact (Bat.1 hx).2 h4
 ·have hx:b.x-a.x<0:=by omega
  have e1:bF b a=true:=(Bba.2 hx).2 hab;have e2:bF t s=true:=(Bts.2 hx).2 hst;have l1:lo a b=b:=by unfold lo;rw [e1];simp
  have l2:hi a b=a:=by unfold hi;rw [e1];simp
  have l3:lo s t=t:=by unfold lo;rw [e2];simp
  have l4:hi s t=s:=by unfold hi;rw [e2];simp
  rw [l1,l2,l3,l4];unfold hi lo;refine afN ?_
  cases e3:bF t b<;>cases e4:bF s a<;>simp only [Bool.false_eq_true,if_true,if_false]
  · exact (Bta.2 hx).2 h4
  · exact (Bts.2 hx).2 hst
  · exact (Bba.2 hx).2 hab
  · exact (Bbs.2 hx).2 h3
theorem Oc {a b s t:Pt} (hab:a≠b) (h1:tw a b s=0) (h2:tw a b t=0):tw s t a=0/\tw s t b=0:=by
 have hne:=Pt.UM hab;unfold tw at *;have e1:(b.x-a.x)*(t.y-s.y)-(b.y-a.y)*(t.x-s.x)=0:=by grind
 have e2:(b.x-a.x)*(a.y-s.y)-(b.y-a.y)*(a.x-s.x)=0:=by grind
 have e3:(b.x-a.x)*(b.y-s.y)-(b.y-a.y)*(b.x-s.x)=0:=by grind
 exact ⟨parallel hne e1 e2,parallel hne e1 e3⟩
theorem aaB {a b s t u v x y:Pt} (hu:(u=a/\v=b)\/(u=b/\v=a)) (hx:(x=s/\y=t)\/(x=t/\y=s))
  (hab:hY a<hY b) (hst:hY s<hY t) (h1:tw a b s=0) (h2:tw a b t=0) (h3:hY s<hY b) (h4:hY a<hY t):pG u v x y=2:=by
 have hs:=am6 hab hst h1 h2 h3 h4;have hne:a≠b:=fun e=>by rw [e] at hab;omega
 obtain ⟨h5,h6⟩:=Oc hne h1 h2;have f1:∀ a b c:Pt,tw b a c=-tw a b c:=fun a b c=>by unfold tw;grind
 have hs':mO u v x y=2:=by
  have c1:mO b a s t=2:=by rw [<- Nu];exact hs
  have c2:mO a b t s=2:=by rw [D8,Nu,D8];exact hs
  have c3:mO b a t s=2:=by rw [D8,Nu,D8];exact c1
  rcases hu with ⟨rfl,rfl⟩ | ⟨rfl,rfl⟩<;>rcases hx with ⟨rfl,rfl⟩ | ⟨rfl,rfl⟩<;>assumption
 have huv:u≠v:=by
  rcases hu with ⟨rfl,rfl⟩ | ⟨rfl,rfl⟩
  · exact hne
  · exact fun e=>hne e.symm
 have z1:tw u v x=0/\tw u v y=0:=by
  rcases hu with ⟨rfl,rfl⟩ | ⟨rfl,rfl⟩<;>rcases hx with ⟨rfl,rfl⟩ | ⟨rfl,rfl⟩<;>first | exact ⟨h1,h2⟩ | exact ⟨h2,h1⟩ | (constructor<;>rw [f1]<;>omega)
 obtain ⟨z2,z3⟩:=Oc huv z1.1 z1.2;have q1:aP u v x y=0:=by rw [aaq];omega
 have q2:aP u v u x=0:=z1.1;have q3:aP u v u y=0:=z1.2;have q4:aP x y x u=0:=z2;have q5:aP x y x v=0:=z3;unfold pG;rw [if_neg (fun e=>huv e.1),if_pos q1,if_pos ⟨q2,q3,q4,q5⟩];exact hs'
theorem am7 {a b s t:Pt} (na:aZ a=true) (nb:aZ b=true) (ns:aZ s=true) (nt:aZ t=true) (hab:hY a<hY b) (hst:hY s<hY t)
  (hno:a≠s->a≠t->b≠s->b≠t->oV a b s t) {τ:Int} (h1:2*hY s<τ) (h2:τ<2*hY t) (h3:2*hY a<τ) (h4:τ<2*hY b)
  (h0:dX a b s t τ=0):tw a b s=0/\tw a b t=0:=by
 have l1:=aaA a b s t (2*hY s) τ (2*hY t);have l2:=aaA a b s t (2*hY a) τ (2*hY b);rw [h0,Int.zero_mul,afJ,afK] at l1;rw [h0,Int.zero_mul,afL,afM] at l2;have k1:tw a b s*(2*hY t-τ)+tw a b t*(τ-2*hY s)=0:=by
  have:(16777216*(hY t-hY s))*(tw a b s*(2*hY t-τ)+tw a b t*(τ-2*hY s))=0:=by
   rw [Int.mul_add,<- Int.mul_assoc,<- Int.mul_assoc];exact l1.symm
  rcases Int.mul_eq_zero.1 this with g | g
  · omega
  · exact g
 have k2:tw s t a*(2*hY b-τ)+tw s t b*(τ-2*hY a)=0:=by
  have:(16777216*(hY b-hY a))*(tw s t a*(2*hY b-τ)+tw s t b*(τ-2*hY a))=0:=by
   rw [Int.mul_add,<- Int.mul_assoc,<- Int.mul_assoc];rw [Int.neg_mul,Int.neg_mul] at l2;omega
  rcases Int.mul_eq_zero.1 this with g | g
  · omega
  · exact g
 have sg:∀ {u v p q:Int},0<p->0<q->u*p+v*q=0->(u<=0/\0<=v/\(u=0↔v=0))\/(0<=u/\v<=0/\(u=0↔v=0)):=by
  intro u v p q hp hq e;have a1:0<u->0<u*p:=fun h=>Int.mul_pos h hp;have a2:u<0->u*p<0:=fun h=>Int.mul_neg_of_neg_of_pos h hp;have a3:0<v->0<v*q:=fun h=>Int.mul_pos h hq;have a4:v<0->v*q<0:=fun h=>Int.mul_neg_of_neg_of_pos h hq;have a5:u=0->u*p=0:=fun h=>by rw [h,Int.zero_mul]
  have a6:v=0->v*q=0:=fun h=>by rw [h,Int.zero_mul]
  omega
 have g1:=sg (show 0<2*hY t-τ by omega) (show 0<τ-2*hY s by omega) k1;have g2:=sg (show 0<2*hY b-τ by omega) (show 0<τ-2*hY a by omega) k2;have d:=QE a b s t;by_cases hp:tw a b t-tw a b s=0
 · omega
 ·by_cases c1:a=s
  ·subst c1;have:=FW a b
   omega
  by_cases c2:b=t
  ·subst c2;have:=FX a b
   omega
  have NM:=hno c1 (fun e=>by rw [e] at h3;omega) (fun e=>by rw [e] at h4;omega) c2 hp;omega
section
variable {p:Pl} (h:Valid p)
include h
theorem Valid.afO {a b:Ar} (ha:a∈p.aj) (hb:b∈p.aj) {k m:Nat} (hk:k+1<(au p a).length) (hm:m+1<(au p b).length) (hne:¬ (a=b/\k=m)) :
  ¬ (pG ((au p a).getD k aA) ((au p a).getD (k+1) aA) ((au p b).getD m aA) ((au p b).getD (m+1) aA)=2/\pG ((au p b).getD m aA) ((au p b).getD (m+1) aA) ((au p a).getD k aA) ((au p a).getD (k+1) aA)=2):=by
 have FZ:∀ {c d:Ar} {i j:Nat},c∈p.aj->d∈p.aj->i+1<(au p c).length->j+1<(au p d).length->eu [(au p c).getD i aA,(au p c).getD (i+1) aA,(au p d).getD j aA,(au p d).getD (j+1) aA]=true:=fun hc hd hi hj =>
  FK (h.dS hc Pe) (h.dS hc hi) (h.dS hd Pe) (h.dS hd hj)
 have same:∀ {a:Ar} (ha:a∈p.aj) {i j:Nat},i<j->j+1<(au p a).length->pG ((au p a).getD i aA) ((au p a).getD (i+1) aA) ((au p a).getD j aA) ((au p a).getD (j+1) aA)≠2:=by
  intro a ha i j hij hj;have hap:=h.wH.2.1 a ha i j hij hj;unfold zl eH at hap;simp only at hap;unfold iQ at hap;rw [if_pos (FZ ha ha Pe hj)] at hap;intro e;rw [e] at hap;split at hap<;>exact absurd hap arC
 have other:∀ {c d:Ar} {i j:Nat},c∈p.aj->d∈p.aj->i+1<(au p c).length->j+1<(au p d).length->sZ p (eH p c i) (eH p d j)=true ->
   pG ((au p c).getD i aA) ((au p c).getD (i+1) aA) ((au p d).getD j aA) ((au p d).getD (j+1) aA)≠2:=by
  intro c d i j hc hd hi hj hjo e;unfold sZ eH iQ at hjo;simp only at hjo;rw [if_pos (FZ hc hd hi hj),e,if_neg arC] at hjo;exact absurd hjo arC
 rintro ⟨h1,h2⟩;by_cases hab:a=b
 ·subst hab;rcases Nat.lt_trichotomy k m with hkm | hkm | hkm
  · exact same ha hkm hm h1
  · exact hne ⟨rfl,hkm⟩
  · exact same ha hkm hk h2
 ·have hpw:=h.wH.2.2;obtain ⟨i,hi,rfl⟩:=avI.1 ha;obtain ⟨j,hj,rfl⟩:=avI.1 hb;rw [avJ] at hpw;rcases Nat.lt_trichotomy i j with hij | hij | hij
  · exact other ha hb hk hm (hpw i j hi hj hij k hk m hm) h1
  · subst hij;exact hab rfl
  · exact other hb ha hm hk (hpw j i hj hi hij m hm k hk) h2
theorem Valid.am8 {c d:Ar} (hc:c∈p.aj) (hd:d∈p.aj) {k m:Nat} (hk:k+1<(au p c).length) (hm:m+1<(au p d).length) (hne:¬ (c=d/\k=m)) {a b s t:Pt}
  (hu:((au p c).getD k aA=a/\(au p c).getD (k+1) aA=b)\/((au p c).getD k aA=b/\(au p c).getD (k+1) aA=a))
  (hx:((au p d).getD m aA=s/\(au p d).getD (m+1) aA=t)\/((au p d).getD m aA=t/\(au p d).getD (m+1) aA=s))
  {τ:Int} (h1:2*hY s<τ) (h2:τ<2*hY t) (h3:2*hY a<τ) (h4:τ<2*hY b):dX a b s t τ≠0:=by
 intro h0;have n1:=h.dS hc (k:=k) Pe;have n2:=h.dS hc (k:=k+1) hk;have n3:=h.dS hd (k:=m) Pe;have n4:=h.dS hd (k:=m+1) hm;have NM:=fun h1 h2 h3 h4=>h.aar hc hd hk hm h1 h2 h3 h4;have one:=h.afO hc hd hk hm hne;generalize (au p c).getD k aA=u at *;generalize (au p c).getD (k+1) aA=v at *;generalize (au p d).getD m aA=x at *;generalize (au p d).getD (m+1) aA=y at *;have na:aZ a=true/\aZ b=true:=by rcases hu with ⟨rfl,rfl⟩ | ⟨rfl,rfl⟩<;>exact ⟨by assumption,by assumption⟩
 have ns:aZ s=true/\aZ t=true:=by rcases hx with ⟨rfl,rfl⟩ | ⟨rfl,rfl⟩<;>exact ⟨by assumption,by assumption⟩
 have hno:a≠s->a≠t->b≠s->b≠t->oV a b s t:=fun g1 g2 g3 g4=>by
  rcases hu with ⟨rfl,rfl⟩ | ⟨rfl,rfl⟩<;>rcases hx with ⟨rfl,rfl⟩ | ⟨rfl,rfl⟩
  · exact NM g1 g2 g3 g4
  · exact (NM g2 g1 g4 g3).comm.flip.comm
  · exact (NM g3 g4 g1 g2).flip
  · exact (NM g4 g3 g2 g1).flip.comm.flip.comm
 have hab:hY a<hY b:=by omega
 have hst:hY s<hY t:=by omega
 obtain ⟨z1,z2⟩:=am7 na.1 na.2 ns.1 ns.2 hab hst hno h1 h2 h3 h4 h0;obtain ⟨z3,z4⟩:=Oc (fun e=>by rw [e] at hab;omega) z1 z2;exact one ⟨aaB hu hx hab hst z1 z2 Pe Pe,aaB hx hu hst hab z3 z4 Pe Pe⟩
end
theorem aaC {α:Type} (l:List α) (f:α->Int) (h:∀ x∈l,0<=f x):0<=(l.map f).sum:=by
 induction l with
 | nil=>exact Int.le_refl _
 | cons a l ih =>
  rw [List.map_cons,List.sum_cons];have:=h a av3
  have:=ih fun x hx=>h x (List.mem_cons_of_mem _ hx)
  omega
theorem afP {α:Type} (l:List α) (f:α->Int) (h:∀ x∈l,0<=f x) (h1:∃ x∈l,0<f x):0<(l.map f).sum:=by
 induction l with
 | nil=>obtain ⟨x,hx,-⟩:=h1;cases hx
 | cons a l ih =>
  rw [List.map_cons,List.sum_cons];have h0:=h a av3;have h2:=aaC l f fun x hx=>h x (List.mem_cons_of_mem _ hx);obtain ⟨x,hx,hp⟩:=h1;rcases av2.1 hx with rfl | hx
  · omega
  ·have:=ih (fun x hx=>h x (List.mem_cons_of_mem _ hx)) ⟨x,hx,hp⟩
   omega
theorem afQ {α:Type} (l:List α) (f:α->List Int):(l.flatMap f).sum=(l.map fun x=>(f x).sum).sum:=by
 induction l with
 | nil=>rfl
 | cons a l ih=>rw [av5,List.sum_append,ih,List.map_cons,List.sum_cons]
def oH (L:List (Int×Int)) (t:Int):Int:=(L.map fun v=>if t<v.1 then v.2 else 0).sum
def Eo (L:List (Int×Int)) (t:Int):Int:=(L.map fun v=>if t<=v.1 then v.2 else 0).sum
theorem aaD {L:List (Int×Int)} (h2:∀ u∈L,u.2≠0->(oH L u.1=0/\Eo L u.1=1)\/(oH L u.1=1/\Eo L u.1=0)) :
  ∀ (n:Nat) (t:Int),(∀ v∈L,v.2≠0->v.1<=t+n)->oH L t=0\/oH L t=1
 | 0,t,h=>by
  left;refine Em _ _ fun v hv=>?_;by_cases h0:v.2=0
  · rw [h0];split<;>rfl
  ·have:=h v hv h0
   rw [if_neg Pe]
 | n+1,t,h=>by
  by_cases hx:∃ v∈L,v.2≠0/\v.1=t+1
  ·obtain ⟨u,hu,h0,e⟩:=hx
   have:oH L t=Eo L u.1:=by
    refine jF _ _ _ fun v _=>?_;rw [e];by_cases c:t<v.1
    · rw [if_pos c,if_pos Pe]
    · rw [if_neg c,if_neg Pe]
   have:=h2 u hu h0
   omega
  ·have e:oH L t=oH L (t+1):=by
    refine jF _ _ _ fun v hv=>?_;by_cases h0:v.2=0
    · rw [h0];split<;>split<;>rfl
    ·have:v.1≠t+1:=fun e=>hx ⟨v,hv,h0,e⟩
     by_cases c:t<v.1
     · rw [if_pos c,if_pos Pe]
     · rw [if_neg c,if_neg Pe]
   rw [e];refine aaD h2 n (t+1) fun v hv h0=>?_;have:=h v hv h0
   omega
theorem aaE:∀ (L:List (Int×Int)),∃ B:Nat,∀ v∈L,-(B:Int)<v.1/\v.1<B
 | []=>⟨0,fun _ h=>by cases h⟩
 | a::L=>by
  obtain ⟨B,hB⟩:=aaE L;refine ⟨B+a.1.natAbs+1,fun v hv=>?_⟩;rcases av2.1 hv with rfl | hv
  · omega
  ·have:=hB v hv
   omega
theorem cnt_lt (n m:Nat) (h:m<=n):((List.range n).map fun k:Nat=>if (k:Int)<m then (1:Int) else 0).sum=m:=by
 induction n generalizing m with
 | zero =>
  have:m=0:=by omega
  subst this;rfl
 | succ n ih =>
  rw [List.range_succ,List.map_append,List.sum_append];simp only [List.map_cons,List.map_nil,List.sum_cons,List.sum_nil];by_cases h1:m<=n
  · rw [ih m h1,if_neg Pe];omega
  ·have hm:m=n+1:=by omega
   subst hm;rw [if_pos Pe];have:=ih n (awe _)
   rw [jF _ _ (fun k:Nat=>if (k:Int)<n then (1:Int) else 0) (fun k hk=>by
    have:=List.mem_range.1 hk
    rw [if_pos Pe,if_pos Pe]),this]
   omega
theorem am9 {L:List (Int×Int)} (h2:∀ u∈L,u.2≠0->(oH L u.1=0/\Eo L u.1=1)\/(oH L u.1=1/\Eo L u.1=0)) (h3:(L.map (·.2)).sum=0) :
  0<=(L.map fun u=>u.1*u.2).sum/\((∃ u∈L,u.2≠0)->0<(L.map fun u=>u.1*u.2).sum):=by
 obtain ⟨B,hB⟩:=aaE L;have e:(L.map fun u=>u.1*u.2).sum=((List.range (2*B)).map fun k:Nat=>oH L ((k:Int)-B)).sum:=by
  have e1:(L.map fun u=>u.1*u.2).sum=(L.map fun u=>u.1*u.2+(B:Int)*u.2).sum:=by
   rw [yt L (fun u=>u.1*u.2) (fun u=>(B:Int)*u.2),FY L (B:Int) (fun u=>u.2),h3,Int.mul_zero,Int.add_zero]
  rw [e1];unfold oH;rw [afs];refine jF _ _ _ fun u hu=>?_;have hb:=hB u hu;have c:=cnt_lt (2*B) (u.1+B).toNat Pe;rw [jF _ _ (fun k:Nat=>u.2*(if (k:Int)<(u.1+B).toNat then (1:Int) else 0)) (fun k hk=>by
   by_cases g:(k:Int)-B<u.1
   · rw [if_pos g,if_pos Pe,Int.mul_one]
   · rw [if_neg g,if_neg Pe,Int.mul_zero]),FY,c,show (((u.1+B).toNat:Nat):Int)=u.1+B by omega]
  rw [<- Int.add_mul,Int.mul_comm]
 have W:∀ t,oH L t=0\/oH L t=1:=fun t=>aaD h2 (B+t.natAbs) t fun v hv _=>by
  have:=hB v hv
  omega
 rw [e];refine ⟨aaC _ _ fun k _=>?_,fun ⟨u,hu,h0⟩=>afP _ _ (fun k _=>?_) ?_⟩
 · have:=W ((k:Int)-B);omega
 · have:=W ((k:Int)-B);omega
 ·have hb:=hB u hu;rcases h2 u hu h0 with ⟨-,g⟩ | ⟨g,-⟩
  ·refine ⟨(u.1-1+B).toNat,List.mem_range.2 Pe,?_⟩;rw [show (((u.1-1+B).toNat:Nat):Int)-B=u.1-1 by omega]
   have:oH L (u.1-1)=Eo L u.1:=by
    refine jF _ _ _ fun v _=>?_;by_cases c:u.1<=v.1
    · rw [if_pos c,if_pos Pe]
    · rw [if_neg c,if_neg Pe]
   omega
  ·refine ⟨(u.1+B).toNat,List.mem_range.2 Pe,?_⟩;rw [show (((u.1+B).toNat:Nat):Int)-B=u.1 by omega];omega
theorem afR (T:Nat) (u v:Int) (m:Nat):∀ n:Nat,((List.range n).map fun j:Nat=>if 2*(j:Int)+1-2*T<2*((m:Int)-T) then u+v*(2*(j:Int)+1-2*T) else 0).sum=u*(min n m:Nat)+v*((min n m:Nat)*(min n m:Nat)-2*T*(min n m:Nat))
 | 0=>by simp
 | n+1=>by
  rw [List.range_succ,List.map_append,List.sum_append,afR T u v m n];simp only [List.map_cons,List.map_nil,List.sum_cons,List.sum_nil,Int.add_zero];by_cases h:n<m
  ·rw [if_pos Pe,Nat.min_eq_left Pe,Nat.min_eq_left Pe];rw [show ((n+1:Nat):Int)=(n:Int)+1 by omega]
   grind
  · rw [if_neg Pe,Nat.min_eq_right Pe,Nat.min_eq_right Pe,Int.add_zero]
def mD (T j:Nat):Int:=2*(j:Int)+1-2*T
theorem ana {T:Nat} {a b:Pt} (ha:-(T:Int)<=hY a/\hY a<=T) (hb:-(T:Int)<=hY b/\hY b<=T) :
  ((List.range (2*T)).map fun j=>gJ (mD T j) a b*xN a b (mD T j)).sum=(hY b-hY a)*(hY b-hY a)*(a.x+b.x):=by
 have f:∀ c:Pt,-(T:Int)<=hY c/\hY c<=T->((List.range (2*T)).map fun j=>if mD T j<2*hY c then xN a b (mD T j) else 0).sum=2*(a.x*hY b-b.x*hY a)*(hY c+T)+(b.x-a.x)*((hY c+T)*(hY c+T)-2*T*(hY c+T)):=by
  intro c hc;have:=afR T (2*(a.x*hY b-b.x*hY a)) (b.x-a.x) (hY c+T).toNat (2*T)
  rw [Nat.min_eq_right Pe,show (((hY c+T).toNat:Nat):Int)=hY c+T by omega] at this;rw [<- this];refine jF _ _ _ fun j _=>?_;have e:xN a b (mD T j)=2*(a.x*hY b-b.x*hY a)+(b.x-a.x)*mD T j:=by unfold xN;grind
  rw [e,show hY c+(T:Int)-T=hY c by omega];rfl
 have e:((List.range (2*T)).map fun j=>gJ (mD T j) a b*xN a b (mD T j)).sum=((List.range (2*T)).map fun j=>(if mD T j<2*hY b then xN a b (mD T j) else 0) + -(if mD T j<2*hY a then xN a b (mD T j) else 0)).sum:=by
  refine jF _ _ _ fun j _=>?_;unfold gJ;split<;>split<;>omega
 rw [e,yt,BH,f b hb,f a ha];generalize hY a=A;generalize hY b=B
 grind
theorem aaF (p:Pl) (z:Int->Int) (c:Int) (f:Pt->Pt->Int):fB p z (fun a b=>c*f a b)=c*fB p z f:=by
 unfold fB nO;rw [<- FY];refine jF _ _ _ fun a _=>?_;rw [FY,<- Int.mul_assoc,Int.mul_comm (z a.id),Int.mul_assoc]
theorem anb (p:Pl) (z:Int->Int):fB p z (fun _ _=>0)=0:=by
 have:=aaF p z 0 (fun _ _=>0)
 rw [Int.zero_mul] at this;simpa using this
theorem afS {β:Type} (p:Pl) (z:Int->Int) (f:β->Pt->Pt->Int):∀ l:List β,fB p z (fun a b=>(l.map fun j=>f j a b).sum)=(l.map fun j=>fB p z (f j)).sum
 | []=>anb p z
 | j::l=>by
  simp only [List.map_cons,List.sum_cons];rw [KN p z (f j) (fun a b=>(l.map fun j=>f j a b).sum),afS p z f l]
def xE (D:Int) (a b:Pt) (τ:Int):Int:=xN a b τ*(D / (hY b-hY a))
theorem Jq (D:Int) (a b:Pt) (τ:Int):xE D b a τ=xE D a b τ:=by
 unfold xE;rw [amZ,show hY a-hY b=-(hY b-hY a) by omega,Int.ediv_neg,Int.neg_mul_neg]
theorem QN {D:Int} (hD:0<D) {a b s t:Pt} {τ:Int} (hab:hY a<hY b) (hst:hY s<hY t) (d1:hY b-hY a∣D) (d2:hY t-hY s∣D) :
  (xE D s t τ<xE D a b τ↔0<dX a b s t τ)/\(xE D s t τ=xE D a b τ↔dX a b s t τ=0):=by
 obtain ⟨q,hq⟩:=d1;obtain ⟨r,hr⟩:=d2;unfold xE;have e1:D / (hY b-hY a)=q:=by rw [hq];exact Int.mul_ediv_cancel_left _ Pe
 have e2:D / (hY t-hY s)=r:=by rw [hr];exact Int.mul_ediv_cancel_left _ Pe
 rw [e1,e2];unfold dX;generalize xN a b τ=X at *;generalize xN s t τ=Y at *;have hn:0<hY b-hY a:=by omega
 have hm:0<hY t-hY s:=by omega
 generalize hY b-hY a=n at *;generalize hY t-hY s=m at *;have k:(X*q-Y*r)*(n*m)=D*(X*m-Y*n):=by
  have h1:(X*q-Y*r)*(n*m)=(n*q)*(X*m)-(m*r)*(Y*n):=by grind
  rw [h1,<- hq,<- hr,Int.mul_sub]
 have hnm:=Int.mul_pos hn hm;generalize n*m=w at *;generalize X*m-Y*n=x at *;have a1:0<X*q-Y*r->0<(X*q-Y*r)*w:=fun h=>Int.mul_pos h hnm;have a2:X*q-Y*r<0->(X*q-Y*r)*w<0:=fun h=>Int.mul_neg_of_neg_of_pos h hnm;have a3:X*q-Y*r=0->(X*q-Y*r)*w=0:=fun h=>by rw [h,Int.zero_mul]
 have b1:0<x->0<D*x:=fun h=>Int.mul_pos hD h;have b2:x<0->D*x<0:=fun h=>Int.mul_neg_of_pos_of_neg hD h;have b3:x=0->D*x=0:=fun h=>by rw [h,Int.mul_zero]
 rw [k] at a1 a2 a3;generalize D*x=Dx at *;generalize X*q=g1 at *;generalize Y*r=g2 at *;constructor<;>constructor<;>intro<;>omega
theorem aaG:∀ l:List Int,(∀ x∈l,x≠0)->∃ D,0<D/\∀ x∈l,x∣D
 | [],_=>⟨1,by omega,fun _ h=>by cases h⟩
 | a::l,h=>by
  obtain ⟨D,h1,h2⟩:=aaG l fun x hx=>h x (List.mem_cons_of_mem _ hx);have ha:=h a av3;refine ⟨(a.natAbs:Int)*D,Int.mul_pos Pe h1,fun x hx=>?_⟩;rcases av2.1 hx with rfl | hx
  · exact Int.dvd_trans (Int.dvd_natAbs_self) (Int.dvd_mul_right _ _)
  · exact Int.dvd_trans (h2 x hx) (Int.dvd_mul_left _ _)
def pW (p:Pl) (z:Int->Int) (D τ:Int):List (Int×Int):=p.aj.flatMap fun a=>(List.range ((au p a).length-1)).map fun k =>
 (xE D ((au p a).getD k aA) ((au p a).getD (k+1) aA) τ,z a.id*gJ τ ((au p a).getD k aA) ((au p a).getD (k+1) aA))
theorem Oe (p:Pl) (z:Int->Int) (D τ:Int) (G:Int->Int->Int) (hG:∀ x c s,G x (c*s)=c*G x s) :
  ((pW p z D τ).map fun u=>G u.1 u.2).sum=fB p z (fun a b=>G (xE D a b τ) (gJ τ a b)):=by
 unfold pW fB nO;rw [List.map_flatMap,afQ];refine jF _ _ _ fun a _=>?_;rw [awc,<- FY];refine jF _ _ _ fun k _=>?_;exact hG _ _ _
section
variable {p:Pl} (h:Valid p)
include h
theorem Valid.QO {z:Int->Int} (hz:jc p z) {a:Ar} (ha:a∈p.aj) {m:Nat} (hm:m+1<(au p a).length) :
  nP p z ((au p a).getD m aA) ((au p a).getD (m+1) aA)=Hz p z (-a.id)/\nP p z ((au p a).getD (m+1) aA) ((au p a).getD m aA)=Hz p z a.id:=by
 have hl:=ig p a;have hid:=(h.kC ha).1;have s0:=h.aaw hz ha hm;have s1:=h.Vo hz ha m hm;have s2:=h.Vo hz ha a.via.length Pe;have hp:=h.En hz ha;have h2:(au p a).getD (a.via.length+1) aA=nodeAt p a.dst:=by
  have:=Dt p a
  rwa [hl,show a.via.length+2-1=a.via.length+1 by omega] at this
 have hn:Hz p z (-a.id)=rM p z ((au p a).getD (a.via.length+1) aA) ((au p a).getD a.via.length aA):=by
  unfold Hz;rw [h.Qs ha,h.Jf ha,h2]
 have j2:rM p z ((au p a).getD (m+1) aA) ((au p a).getD m aA)-nP p z ((au p a).getD (m+1) aA) ((au p a).getD m aA)=-z a.id:=by
  by_cases h0:m+1=(au p a).length-1
  ·obtain ⟨n,hn,e1,e2⟩:=h.sound.FI ha;have:=h.Ob hz hn (d:=-a.id) (wJ.2 ⟨a,ha,.inr ⟨rfl,e1.symm⟩⟩)
   rw [h.Jf ha,show a.via.length=m by omega] at this;rw [h0,Dt,e2,this];unfold zD;rw [if_neg Pe,Int.neg_neg]
  · exact h.afA z ha Pe
 omega
theorem Valid.anc {z:Int->Int} {a:Ar} (ha:a∈p.aj) {m:Nat} (hm:m+1<(au p a).length) {f:Pt->Pt->Int}
  (h0:∀ c∈p.aj,z c.id≠0->∀ k,k+1<(au p c).length->¬ (c=a/\k=m)->f ((au p c).getD k aA) ((au p c).getD (k+1) aA)=0) :
  fB p z f=z a.id*f ((au p a).getD m aA) ((au p a).getD (m+1) aA):=by
 unfold fB nO;have:=QG p.aj (·.id) h.sound.aj (fun _=>z a.id*f ((au p a).getD m aA) ((au p a).getD (m+1) aA)) a.id ⟨a,ha,rfl⟩
 rw [<- this];refine jF _ _ _ fun c hc=>?_;by_cases hz0:z c.id=0
 ·rw [hz0,Int.zero_mul];by_cases e:a.id=c.id
  · rw [if_pos e,e,hz0,Int.zero_mul]
  · rw [if_neg e]
 by_cases e:a.id=c.id
 ·have:=h.ae0 ha hc e
  subst this;rw [if_pos rfl,QF _ m (fun k=>f ((au p a).getD k aA) ((au p a).getD (k+1) aA)) (fun k hk hne=>h0 a ha hz0 k Pe (fun e=>hne e.2)),if_pos Pe]
 · rw [if_neg e,Em _ _ (fun k hk=>h0 c hc hz0 k avu (fun e2=>e (by rw [e2.1]))),Int.mul_zero]
def zF (p:Pl) (z:Int->Int) (τ:Int):Prop:=∀ a∈p.aj,z a.id≠0->∀ k,k<(au p a).length->2*hY ((au p a).getD k aA)≠τ
omit h in
theorem zF.odd (z:Int->Int) {τ:Int} (hτ:τ % 2=1):zF p z τ:=fun a _ _ k _=>by omega
omit h in
theorem Vs {z:Int->Int} {f g:Pt->Pt->Int} (h:∀ a∈p.aj,z a.id≠0->∀ k,k+1<(au p a).length->f ((au p a).getD k aA) ((au p a).getD (k+1) aA)=g ((au p a).getD k aA) ((au p a).getD (k+1) aA)):fB p z f=fB p z g:=by
 unfold fB nO;refine jF _ _ _ fun a ha=>?_;by_cases h0:z a.id=0
 · rw [h0,Int.zero_mul,Int.zero_mul]
 · rw [jF _ _ (fun k=>g ((au p a).getD k aA) ((au p a).getD (k+1) aA)) (fun k hk=>h a ha h0 k avu)]
theorem Valid.beyond {z:Int->Int} (hz:jc p z) {D:Int} (hD:0<D) (hd:∀ a∈p.aj,∀ k,k+1<(au p a).length->hY ((au p a).getD (k+1) aA)-hY ((au p a).getD k aA)∣D)
  {τ:Int} (hτ:zF p z τ) {c:Ar} (hc:c∈p.aj) {m:Nat} (hm:m+1<(au p c).length) {s t:Pt}
  (he:(s=(au p c).getD m aA/\t=(au p c).getD (m+1) aA)\/(t=(au p c).getD m aA/\s=(au p c).getD (m+1) aA)) (h1:2*hY s<τ) (h2:τ<2*hY t) :
  fB p z (fun a b=>if xE D s t τ<xE D a b τ then gJ τ a b else 0)=nP p z s t:=by
 have ht:=h.QI hz (fun v=>-wR s t τ v);have e:fB p z (fun a b=>if xE D s t τ<xE D a b τ then gJ τ a b else 0)=fB p z (fun a b=>tK s t a b+(-wR s t τ b - -wR s t τ a)):=by
  refine Vs fun a ha hza k hk=>?_;have na:=h.dS ha (k:=k) Pe;have nb:=h.dS ha (k:=k+1) hk;have n1:=h.dS hc (k:=m) Pe;have n2:=h.dS hc (k:=m+1) hm;have hne:=(h.distinct ha hk).1;have NM:=fun h1 h2 h3 h4=>h.aar ha hc hk hm h1 h2 h3 h4;have da:=hd a ha k hk;have fx:=hτ a ha hza k Pe;have fy:=hτ a ha hza (k+1) hk;have dc:=hd c hc m hm;generalize (au p a).getD k aA=x at *;generalize (au p a).getD (k+1) aA=y at *;generalize (au p c).getD m aA=e at *;generalize (au p c).getD (m+1) aA=f at *;have ns:aZ s=true:=by rcases he with ⟨rfl,-⟩ | ⟨-,rfl⟩<;>assumption
  have nt:aZ t=true:=by rcases he with ⟨-,rfl⟩ | ⟨rfl,-⟩<;>assumption
  have dst:hY t-hY s∣D:=by
   rcases he with ⟨rfl,rfl⟩ | ⟨rfl,rfl⟩
   · exact dc
   · rw [show hY t-hY s=-(hY s-hY t) by omega];exact Int.neg_dvd.2 dc
  have QK:x≠s->x≠t->y≠s->y≠t->oV x y s t:=fun h1 h2 h3 h4=>by
   rcases he with ⟨rfl,rfl⟩ | ⟨rfl,rfl⟩
   · exact NM h1 h2 h3 h4
   · exact (NM h2 h1 h4 h3).comm.flip.comm
  have hst:hY s<hY t:=by omega
  have up:∀ {a b:Pt},2*hY a≠τ->2*hY b≠τ->aZ a=true->aZ b=true->hY a<hY b->hY b-hY a∣D->(a≠s->a≠t->b≠s->b≠t->oV a b s t) ->
    (if xE D s t τ<xE D a b τ then gJ τ a b else 0)=tK s t a b+(-wR s t τ b - -wR s t τ a):=by
   intro a b fa fb na nb hab da NM;have e:=am4 na nb ns nt hab hst NM fa fb h1 h2;have k:=(QN (τ:=τ) hD hab hst da dst).1;have e2:tK s t a b+(-wR s t τ b - -wR s t τ a)=tK s t a b+(wR s t τ a-wR s t τ b):=by omega
   rw [e2,<- e];unfold gJ;by_cases g:0<dX a b s t τ
   ·rw [if_pos (k.2 g)];by_cases g1:2*hY a<τ<;>by_cases g2:τ<2*hY b
    · rw [if_pos g2,if_neg Pe,if_pos ⟨g1,g2,g⟩];rfl
    · rw [if_neg g2,if_neg Pe,if_neg (fun e=>g2 e.2.1)];rfl
    · rw [if_pos g2,if_pos Pe,if_neg (fun e=>g1 e.1)];rfl
    · omega
   · rw [if_neg (fun e=>g (k.1 e)),if_neg (fun e=>g e.2.2)]
  rcases Int.lt_trichotomy (hY x) (hY y) with c1 | c1 | c1
  · exact up fx fy na nb c1 da QK
  · exact absurd (oU na nb c1) hne
  ·have:=up fy fx nb na c1 (by rw [show hY x-hY y=-(hY y-hY x) by omega];exact Int.neg_dvd.2 da) (fun h1 h2 h3 h4=>(QK h3 h4 h1 h2).flip)
   rw [Jq D x y τ,afw s t x y] at this;have e3:gJ τ y x=-gJ τ x y:=by unfold gJ;omega
   rw [e3] at this;split at this<;>split<;>first | omega | contradiction
 rw [e,KN p z (tK s t) (fun a b=>-wR s t τ b - -wR s t τ a),ht,Int.add_zero];rfl
end
theorem Vt {τ:Int} {x y:Pt} (hx:2*hY x≠τ) (hy:2*hY y≠τ) (h0:gJ τ x y≠0):(2*hY x<τ/\τ<2*hY y/\gJ τ x y=1)\/(2*hY y<τ/\τ<2*hY x/\gJ τ x y=-1):=by
 unfold gJ at *;by_cases c1:τ<2*hY y<;>by_cases c2:τ<2*hY x
 · exact absurd (by rw [if_pos c1,if_pos c2];rfl) h0
 · exact .inl ⟨by omega,c1,by rw [if_pos c1,if_neg c2];rfl⟩
 · exact .inr ⟨by omega,c2,by rw [if_neg c1,if_pos c2];rfl⟩
 · exact absurd (by rw [if_neg c1,if_neg c2];rfl) h0
section
variable {p:Pl} (h:Valid p)
include h
theorem Valid.ane {D:Int} (hD:0<D) (hd:∀ a∈p.aj,∀ k,k+1<(au p a).length->hY ((au p a).getD (k+1) aA)-hY ((au p a).getD k aA)∣D)
  {τ:Int} {z:Int->Int} (hτ:zF p z τ) {c d:Ar} (hc:c∈p.aj) (hzc:z c.id≠0) (hd':d∈p.aj) (hzd:z d.id≠0) {k m:Nat} (hk:k+1<(au p c).length) (hm:m+1<(au p d).length) (hne:¬ (c=d/\k=m))
  (h1:gJ τ ((au p c).getD k aA) ((au p c).getD (k+1) aA)≠0) (h2:gJ τ ((au p d).getD m aA) ((au p d).getD (m+1) aA)≠0) :
  xE D ((au p d).getD m aA) ((au p d).getD (m+1) aA) τ≠xE D ((au p c).getD k aA) ((au p c).getD (k+1) aA) τ:=by
 have dc:=hd c hc k hk;have dd:=hd d hd' m hm;have N:=fun a b s t=>h.am8 (a:=a) (b:=b) (s:=s) (t:=t) hc hd' hk hm hne;have s1:=Vt (hτ c hc hzc k Pe) (hτ c hc hzc (k+1) hk) h1;have s2:=Vt (hτ d hd' hzd m Pe) (hτ d hd' hzd (m+1) hm) h2;generalize (au p c).getD k aA=u at *;generalize (au p c).getD (k+1) aA=v at *;generalize (au p d).getD m aA=x at *;generalize (au p d).getD (m+1) aA=y at *;have dc':hY u-hY v∣D:=by rw [show hY u-hY v=-(hY v-hY u) by omega];exact Int.neg_dvd.2 dc
 have dd':hY x-hY y∣D:=by rw [show hY x-hY y=-(hY y-hY x) by omega];exact Int.neg_dvd.2 dd
 intro e;rcases s1 with ⟨a1,a2,-⟩ | ⟨a1,a2,-⟩<;>rcases s2 with ⟨b1,b2,-⟩ | ⟨b1,b2,-⟩
 · exact N u v x y (.inl ⟨rfl,rfl⟩) (.inl ⟨rfl,rfl⟩) b1 b2 a1 a2 ((QN hD Pe Pe dc dd).2.1 e)
 · exact N u v y x (.inl ⟨rfl,rfl⟩) (.inr ⟨rfl,rfl⟩) b1 b2 a1 a2 ((QN hD Pe Pe dc dd').2.1 (by rw [Jq];exact e))
 · exact N v u x y (.inr ⟨rfl,rfl⟩) (.inl ⟨rfl,rfl⟩) b1 b2 a1 a2 ((QN hD Pe Pe dc' dd).2.1 (by rw [Jq D u v];exact e))
 · exact N v u y x (.inr ⟨rfl,rfl⟩) (.inr ⟨rfl,rfl⟩) b1 b2 a1 a2 ((QN hD Pe Pe dc' dd').2.1 (by rw [Jq,Jq D u v];exact e))
theorem Valid.aaH {z:Int->Int} (hz:jc p z) {D:Int} (hD:0<D) (hd:∀ a∈p.aj,∀ k,k+1<(au p a).length->hY ((au p a).getD (k+1) aA)-hY ((au p a).getD k aA)∣D) {τ:Int} (hτ:zF p z τ)
  {a:Ar} (ha:a∈p.aj) {k:Nat} (hk:k+1<(au p a).length) (hs:(2*hY ((au p a).getD k aA)<τ/\τ<2*hY ((au p a).getD (k+1) aA))\/(2*hY ((au p a).getD (k+1) aA)<τ/\τ<2*hY ((au p a).getD k aA))) :
  oH (pW p z D τ) (xE D ((au p a).getD k aA) ((au p a).getD (k+1) aA) τ)=(if hY ((au p a).getD k aA)<hY ((au p a).getD (k+1) aA) then Hz p z (-a.id) else Hz p z a.id) /\
  (z a.id≠0->Eo (pW p z D τ) (xE D ((au p a).getD k aA) ((au p a).getD (k+1) aA) τ)=(if hY ((au p a).getD k aA)<hY ((au p a).getD (k+1) aA) then Hz p z a.id else Hz p z (-a.id))):=by
 have hp:=h.En hz ha;obtain ⟨r1,r2⟩:=h.QO hz ha hk;have own:=fun (hz0:z a.id≠0) (hs0:gJ τ ((au p a).getD k aA) ((au p a).getD (k+1) aA)≠0)=>h.anc (z:=z) ha hk (f:=fun x y=>if xE D ((au p a).getD k aA) ((au p a).getD (k+1) aA) τ=xE D x y τ then gJ τ x y else 0) (fun c hc hzc m hm hne=>by
  by_cases g:gJ τ ((au p c).getD m aA) ((au p c).getD (m+1) aA)=0
  · rw [g];split<;>rfl
  · exact if_neg (h.ane hD hd hτ hc hzc ha hz0 hm hk hne g hs0))
 rw [if_pos rfl] at own;have by1:=h.beyond hz hD hd hτ ha hk (s:=(au p a).getD k aA) (t:=(au p a).getD (k+1) aA) (.inl ⟨rfl,rfl⟩);have Vu:=h.beyond hz hD hd hτ ha hk (t:=(au p a).getD k aA) (s:=(au p a).getD (k+1) aA) (.inr ⟨rfl,rfl⟩);rw [Jq D ((au p a).getD k aA)] at Vu;rw [r1] at by1;rw [r2] at Vu;have sg:gJ τ ((au p a).getD k aA) ((au p a).getD (k+1) aA)=if hY ((au p a).getD k aA)<hY ((au p a).getD (k+1) aA) then 1 else -1:=by
  unfold gJ;rcases hs with ⟨g1,g2⟩ | ⟨g1,g2⟩
  · rw [if_pos g2,if_neg Pe,if_pos Pe];rfl
  · rw [if_neg Pe,if_pos g2,if_neg Pe];rfl
 generalize xE D ((au p a).getD k aA) ((au p a).getD (k+1) aA) τ=X at *;have bS:oH (pW p z D τ) X=fB p z (fun a b=>if X<xE D a b τ then gJ τ a b else 0) :=
  Oe p z D τ (fun x s=>if X<x then s else 0) (fun x c s=>by split<;>simp)
 have bE:Eo (pW p z D τ) X=fB p z (fun a b=>if X<xE D a b τ then gJ τ a b else 0)+fB p z (fun a b=>if X=xE D a b τ then gJ τ a b else 0):=by
  rw [<- KN];have:=Oe p z D τ (fun x s=>if X<=x then s else 0) (fun x c s=>by split<;>simp)
  refine this.trans (QH fun c _ m _=>?_);rcases Int.lt_trichotomy X (xE D ((au p c).getD m aA) ((au p c).getD (m+1) aA) τ) with g | g | g
  · rw [if_pos Pe,if_pos g,if_neg Pe];omega
  · rw [if_pos Pe,if_neg Pe,if_pos g];omega
  · rw [if_neg Pe,if_neg Pe,if_neg Pe];rfl
 rw [bS];have own':=fun hz0=>own hz0 (by rw [sg];split<;>omega);rcases hs with ⟨g1,g2⟩ | ⟨g1,g2⟩
 ·rw [if_pos Pe] at sg ⊢;rw [if_pos Pe];refine ⟨by1 g1 g2,fun hz0=>?_⟩;rw [bE,own' hz0,by1 g1 g2,sg];omega
 ·rw [if_neg Pe] at sg ⊢;rw [if_neg Pe];refine ⟨Vu g1 g2,fun hz0=>?_⟩;rw [bE,own' hz0,Vu g1 g2,sg];omega
theorem Valid.anf {z:Int->Int} (hz:jc p z) (D τ:Int):((pW p z D τ).map (·.2)).sum=0:=by
 rw [Oe p z D τ (fun _ s=>s) (fun _ _ _=>rfl)];exact h.QI hz (fun v=>if τ<2*hY v then 1 else 0)
theorem Valid.afT {z:Int->Int} (hz:jc p z) (hw:∀ a∈p.aj,z a.id≠0->(Hz p z (-a.id)=0/\Hz p z a.id=1)\/(Hz p z (-a.id)=1/\Hz p z a.id=0))
  {D:Int} (hD:0<D) (hd:∀ a∈p.aj,∀ k,k+1<(au p a).length->hY ((au p a).getD (k+1) aA)-hY ((au p a).getD k aA)∣D) {τ:Int} (hτ:zF p z τ) :
  ∀ u∈pW p z D τ,u.2≠0->(oH (pW p z D τ) u.1=0/\Eo (pW p z D τ) u.1=1)\/(oH (pW p z D τ) u.1=1/\Eo (pW p z D τ) u.1=0):=by
 intro u hu hu0;obtain ⟨a,ha,hu⟩:=List.mem_flatMap.1 hu;obtain ⟨k,hk,rfl⟩:=av6.1 hu;have hk:=List.mem_range.1 hk;have hk:k+1<(au p a).length:=by omega
 simp only at hu0 ⊢;have hz0:z a.id≠0:=fun e=>hu0 (by rw [e,Int.zero_mul]);have hs0:gJ τ ((au p a).getD k aA) ((au p a).getD (k+1) aA)≠0:=fun e=>hu0 (by rw [e,Int.mul_zero]);have hW:=hw a ha hz0;have hsp:=Vt (hτ a ha hz0 k Pe) (hτ a ha hz0 (k+1) hk) hs0;obtain ⟨b1,b2⟩:=h.aaH hz hD hd hτ ha hk (by
  rcases hsp with ⟨g1,g2,-⟩ | ⟨g1,g2,-⟩
  · exact .inl ⟨g1,g2⟩
  · exact .inr ⟨g1,g2⟩)
 rw [b1,b2 hz0];split<;>omega
theorem Valid.ang {z:Int->Int} (hz:jc p z) (hw:∀ a∈p.aj,z a.id≠0->(Hz p z (-a.id)=0/\Hz p z a.id=1)\/(Hz p z (-a.id)=1/\Hz p z a.id=0))
  {D:Int} (hD:0<D) (hd:∀ a∈p.aj,∀ k,k+1<(au p a).length->hY ((au p a).getD (k+1) aA)-hY ((au p a).getD k aA)∣D) {τ:Int} (hτ:τ % 2=1) :
  0<=fB p z (fun a b=>xE D a b τ*gJ τ a b)/\((∃ a∈p.aj,∃ k,k+1<(au p a).length/\z a.id≠0/\gJ τ ((au p a).getD k aA) ((au p a).getD (k+1) aA)≠0)->0<fB p z (fun a b=>xE D a b τ*gJ τ a b)):=by
 have e0:=Oe p z D τ (fun x s=>x*s) (fun x c s=>by grind);have:=am9 (h.afT hz hw hD hd (zF.odd z hτ)) (h.anf hz D τ)
 rw [e0] at this;refine ⟨this.1,fun ⟨a,ha,k,hk,h4,h5⟩=>this.2 ⟨(xE D ((au p a).getD k aA) ((au p a).getD (k+1) aA) τ,z a.id*gJ τ ((au p a).getD k aA) ((au p a).getD (k+1) aA)),?_,fun e=>?_⟩⟩
 · exact List.mem_flatMap.2 ⟨a,ha,av6.2 ⟨k,List.mem_range.2 Pe,rfl⟩⟩
 ·rcases Int.mul_eq_zero.1 e with e | e
  · exact h4 e
  · exact h5 e
theorem Valid.anh {z:Int->Int} (hz:jc p z) {T:Nat} (hT:∀ q,aZ q=true->-(T:Int)<=hY q/\hY q<=T)
  {D:Int} (hd:∀ a∈p.aj,∀ k,k+1<(au p a).length->hY ((au p a).getD (k+1) aA)-hY ((au p a).getD k aA)∣D) :
  D*(8388608*fB p z rJ)=((List.range (2*T)).map fun j=>fB p z (fun a b=>xE D a b (mD T j)*gJ (mD T j) a b)).sum:=by
 rw [<- afS p z (fun j a b=>xE D a b (mD T j)*gJ (mD T j) a b),<- aaF,<- aaF];have t:=h.QI hz (fun v=>D*(v.x*hY v));have e:fB p z (fun a b=>((List.range (2*T)).map fun j=>xE D a b (mD T j)*gJ (mD T j) a b).sum)=fB p z (fun a b=>D*(8388608*rJ a b)+(D*(b.x*hY b)-D*(a.x*hY a))):=by
  refine QH fun a ha k hk=>?_;have na:=h.dS ha (k:=k) Pe;have nb:=h.dS ha (k:=k+1) hk;have hne:=(h.distinct ha hk).1;have da:=hd a ha k hk;generalize (au p a).getD k aA=x at *;generalize (au p a).getD (k+1) aA=y at *;have hn:hY y-hY x≠0:=fun e=>hne (oU na nb Pe);have es:=ana (hT x na) (hT y nb);obtain ⟨q,hq⟩:=da;have eq:D / (hY y-hY x)=q:=by rw [hq];exact Int.mul_ediv_cancel_left _ hn
  unfold xE;rw [eq,jF _ _ (fun j=>q*(gJ (mD T j) x y*xN x y (mD T j))) (fun j _=>by grind),FY,es];have hc:8388608*rJ x y=x.x*hY y-y.x*hY x:=by unfold rJ hY;grind
  rw [hc,hq];generalize hY x=A;generalize hY y=B
  grind
 rw [e,KN p z (fun a b=>D*(8388608*rJ a b)) (fun a b=>D*(b.x*hY b)-D*(a.x*hY a)),t,Int.add_zero]
theorem Valid.aaI {z:Int->Int} (hz:jc p z) (hw:∀ a∈p.aj,z a.id≠0->(Hz p z (-a.id)=0/\Hz p z a.id=1)\/(Hz p z (-a.id)=1/\Hz p z a.id=0)) :
  0<=fB p z rJ/\((∃ a∈p.aj,z a.id≠0)->0<fB p z rJ):=by
 obtain ⟨T,hT⟩:∃ T:Nat,∀ q,aZ q=true->-(T:Int)<=hY q/\hY q<=T:=⟨17592188141568,fun q hq=>by
  rw [vJ] at hq;unfold hY;omega⟩
 have hsep:∀ a∈p.aj,∀ k,k+1<(au p a).length->hY ((au p a).getD (k+1) aA)-hY ((au p a).getD k aA)≠0:=fun a ha k hk e =>
  (h.distinct ha hk).1 (oU (h.dS ha Pe) (h.dS ha hk) Pe)
 obtain ⟨D,hD,hd⟩:∃ D:Int,0<D/\∀ a∈p.aj,∀ k,k+1<(au p a).length->hY ((au p a).getD (k+1) aA)-hY ((au p a).getD k aA)∣D:=by
  obtain ⟨D,h1,h2⟩:=aaG (p.aj.flatMap fun a=>(List.range ((au p a).length-1)).map fun k=>hY ((au p a).getD (k+1) aA)-hY ((au p a).getD k aA)) (fun x hx=>by
   obtain ⟨a,ha,hx⟩:=List.mem_flatMap.1 hx;obtain ⟨k,hk,rfl⟩:=av6.1 hx;exact hsep a ha k avu)
  exact ⟨D,h1,fun a ha k hk=>h2 _ (List.mem_flatMap.2 ⟨a,ha,av6.2 ⟨k,List.mem_range.2 Pe,rfl⟩⟩)⟩
 have e:=h.anh hz hT hd;have odd:∀ j,mD T j % 2=1:=fun j=>by unfold mD;omega
 have S:=fun j=>h.ang hz hw hD hd (odd j);refine ⟨?_,fun ⟨a,ha,hza⟩=>?_⟩
 ·have h0:=aaC (List.range (2*T)) (fun j=>fB p z (fun a b=>xE D a b (mD T j)*gJ (mD T j) a b)) (fun j _=>(S j).1);rw [<- e] at h0;apply Classical.byContradiction;intro hn;have:=Int.mul_neg_of_pos_of_neg hD (show 8388608*fB p z rJ<0 by omega)
  omega
 ·have hl:=ig p a;have hk:0+1<(au p a).length:=by omega
  have hs:=hsep a ha 0 hk;have t0:=hT _ (h.dS ha (k:=0) Pe);have t1:=hT _ (h.dS ha (k:=0+1) hk);have h0:=afP (List.range (2*T)) (fun j=>fB p z (fun a b=>xE D a b (mD T j)*gJ (mD T j) a b)) (fun j _=>(S j).1) (by
   refine ⟨(min (hY ((au p a).getD 0 aA)) (hY ((au p a).getD (0+1) aA))+T).toNat,List.mem_range.2 Pe,?_⟩;refine (S _).2 ⟨a,ha,0,hk,hza,?_⟩;unfold gJ mD;generalize hY ((au p a).getD 0 aA)=A at *;generalize hY ((au p a).getD (0+1) aA)=B at *;have hj:(((min A B+T).toNat:Nat):Int)=min A B+T:=by omega
   rw [hj];by_cases c:A<B
   · rw [if_pos Pe,if_neg Pe];omega
   · rw [if_neg Pe,if_pos Pe];omega)
  rw [<- e] at h0;apply Classical.byContradiction;intro hn;have:=Int.mul_nonpos_of_nonneg_of_nonpos (show 0<=D by omega) (show 8388608*fB p z rJ<=0 by omega)
  omega
end
end Go.Proofs.YtialfdomhoojiaaGreat
