import Derived.Test.YtpempeioeiaijaaGreatJ08
set_option linter.unusedSimpArgs false
set_option linter.unusedVariables false
namespace Go.Proofs.YtpempeioeiaijaaGreat
open Go.RowKit
theorem arM {p q:Pt} {dx dy:Int} (hN:0<8388608*dy+dx) (e:(q.x-p.x)*dy=(q.y-p.y)*dx) :
  (0<=dx->(BP p q=true↔hY p<hY q))/\(dx<0->(BP p q=true↔hY q<hY p)):=by
 have k:(8388608*(q.y-p.y)+(q.x-p.x))*dx=(q.x-p.x)*(8388608*dy+dx):=by grind
 have hd:hY q-hY p=8388608*(q.y-p.y)+(q.x-p.x):=by unfold hY;omega
 rw [<- hd] at k;have z:q.x-p.x=0->dx≠0->q.y-p.y=0:=fun h0 h1=>by
  rw [h0,Jy] at e;rcases WG.1 e.symm with h2 | h2
  · exact h2
  · exact absurd h2 h1
 rw [MX];generalize 8388608*dy+dx=N at *;generalize hu:q.x-p.x=u at *;have s1:0<u->0<u*N:=fun h=>Ji h hN;have s2:u<0->u*N<0:=fun h=>Uf h hN;have s3:u=0->u*N=0:=fun h=>by rw [h,Jy]
 refine ⟨fun h=>?_,fun h=>?_⟩
 ·by_cases h0:dx=0
  ·subst h0;have hu0:u=0:=by
    rcases Iw u 0 with g | g | g
    · have:=s2 g;omega
    · exact g
    · have:=s1 g;omega
   unfold hY at *;omega
  ·have hp:0<dx:=AA
   have t1:0<hY q-hY p->0<(hY q-hY p)*dx:=fun h=>Ji h hp;have t2:hY q-hY p<0->(hY q-hY p)*dx<0:=fun h=>Uf h hp;have t3:hY q-hY p=0->(hY q-hY p)*dx=0:=fun h=>by rw [h,Jy]
   omega
 ·have t1:0<hY q-hY p->(hY q-hY p)*dx<0:=fun g=>WE g h;have t2:hY q-hY p<0->0<(hY q-hY p)*dx:=fun g=>qZ g h;have t3:hY q-hY p=0->(hY q-hY p)*dx=0:=fun h=>by rw [h,Jy]
  omega
theorem ajO {X Y:Pt} (h:BP X Y=true):(if X=Y then (1:Int) else if BP X Y then 2 else 0)=2:=by
 rw [AX (fun e=>by rw [e,U4] at h;cases h),AZ h]
theorem arN {a b s t:Pt} (hab:hY a<hY b) (hst:hY s<hY t) (h1:tw a b s=0) (h2:tw a b t=0) (h3:hY s<hY b) (h4:hY a<hY t):KN a b s t=2:=by
 have hN:0<8388608*(b.y-a.y)+(b.x-a.x):=by unfold hY at hab;omega
 have ln:∀ {p q:Pt},tw a b p=0->tw a b q=0->(q.x-p.x)*(b.y-a.y)=(q.y-p.y)*(b.x-a.x):=by
  intro p q hp hq
  have:tw a b q-tw a b p=(b.x-a.x)*(q.y-p.y)-(b.y-a.y)*(q.x-p.x):=by unfold tw;grind
  rw [hp,hq] at this;rw [OB (q.x-p.x),OB (q.y-p.y)];omega
 have B:∀ {p q:Pt},tw a b p=0->tw a b q=0->_:=fun hp hq=>arM hN (ln hp hq);have ha:=Xv a b;have hb:=Xw a b;have Bba:=B hb ha;have Bts:=B h2 h1;have Bsa:=B h1 ha;have Btb:=B h2 hb;have Bab:=B ha hb;have Bat:=B ha h2;have Bsb:=B h1 hb;have Bst:=B h1 h2;have Bta:=B h2 ha;have Bbs:=B hb h1;rw [V7];by_cases hx:0<=b.x-a.x
 ·have e1:BP b a=false:=by rw [<- IL,Bba.1 hx];omega
  have e2:BP t s=false:=by rw [<- IL,Bts.1 hx];omega
  have l1:lo a b=a:=by unfold lo;rw [e1];simp
  have l2:hi a b=b:=by unfold hi;rw [e1];simp
  have l3:lo s t=s:=by unfold lo;rw [e2];simp
  have l4:hi s t=t:=by unfold hi;rw [e2];simp
  rw [l1,l2,l3,l4];unfold hi lo;refine ajO ?_
  cases e3:BP s a<;>cases e4:BP t b<;>simp only [QL,if_true,if_false]
  · exact (Bsb.1 hx).2 h3
  · exact (Bst.1 hx).2 hst
  · exact (Bab.1 hx).2 hab
  · exact (Bat.1 hx).2 h4
 ·have hx:b.x-a.x<0:=AA
  have e1:BP b a=true:=(Bba.2 hx).2 hab;have e2:BP t s=true:=(Bts.2 hx).2 hst;have l1:lo a b=b:=by unfold lo;rw [e1];simp
  have l2:hi a b=a:=by unfold hi;rw [e1];simp
  have l3:lo s t=t:=by unfold lo;rw [e2];simp
  have l4:hi s t=s:=by unfold hi;rw [e2];simp
  rw [l1,l2,l3,l4];unfold hi lo;refine ajO ?_
  cases e3:BP t b<;>cases e4:BP s a<;>simp only [QL,if_true,if_false]
  · exact (Bta.2 hx).2 h4
  · exact (Bts.2 hx).2 hst
  · exact (Bba.2 hx).2 hab
  · exact (Bbs.2 hx).2 h3
theorem oJ {a b s t:Pt} (hab:a≠b) (h1:tw a b s=0) (h2:tw a b t=0):tw s t a=0/\tw s t b=0:=by
 have hne:=Pt.aaT hab;unfold tw at *;have e1:(b.x-a.x)*(t.y-s.y)-(b.y-a.y)*(t.x-s.x)=0:=by grind
 have e2:(b.x-a.x)*(a.y-s.y)-(b.y-a.y)*(a.x-s.x)=0:=by grind
 have e3:(b.x-a.x)*(b.y-s.y)-(b.y-a.y)*(b.x-s.x)=0:=by grind
 exact ⟨parallel hne e1 e2,parallel hne e1 e3⟩
theorem aeN {a b s t u v x y:Pt} (hu:(u=a/\v=b)\/(u=b/\v=a)) (hx:(x=s/\y=t)\/(x=t/\y=s))
  (hab:hY a<hY b) (hst:hY s<hY t) (h1:tw a b s=0) (h2:tw a b t=0) (h3:hY s<hY b) (h4:hY a<hY t):N9 u v x y=2:=by
 have hs:=arN hab hst h1 h2 h3 h4;have hne:a≠b:=fun e=>by rw [e] at hab;omega
 obtain ⟨h5,h6⟩:=oJ hne h1 h2;have f1:∀ a b c:Pt,tw b a c=-tw a b c:=fun a b c=>by unfold tw;grind
 have hs':KN u v x y=2:=by
  have c1:KN b a s t=2:=by rw [<- lI];exact hs
  have c2:KN a b t s=2:=by rw [Wx,lI,Wx];exact hs
  have c3:KN b a t s=2:=by rw [Wx,lI,Wx];exact c1
  rcases hu with ⟨rfl,rfl⟩ | ⟨rfl,rfl⟩<;>rcases hx with ⟨rfl,rfl⟩ | ⟨rfl,rfl⟩<;>assumption
 have huv:u≠v:=by
  rcases hu with ⟨rfl,rfl⟩ | ⟨rfl,rfl⟩
  · exact hne
  · exact fun e=>hne e.symm
 have z1:tw u v x=0/\tw u v y=0:=by
  rcases hu with ⟨rfl,rfl⟩ | ⟨rfl,rfl⟩<;>rcases hx with ⟨rfl,rfl⟩ | ⟨rfl,rfl⟩<;>first | exact ⟨h1,h2⟩ | exact ⟨h2,h1⟩ | (constructor<;>rw [f1]<;>omega)
 obtain ⟨z2,z3⟩:=oJ huv z1.1 z1.2;have q1:BM u v x y=0:=by rw [af4];omega
 have q2:BM u v u x=0:=z1.1;have q3:BM u v u y=0:=z1.2;have q4:BM x y x u=0:=z2;have q5:BM x y x v=0:=z3;unfold N9;rw [AX (fun e=>huv e.1),AZ q1,AZ ⟨q2,q3,q4,q5⟩];exact hs'
theorem arO {a b s t:Pt} (na:CJ a=true) (nb:CJ b=true) (ns:CJ s=true) (nt:CJ t=true) (hab:hY a<hY b) (hst:hY s<hY t)
  (hno:a≠s->a≠t->b≠s->b≠t->Me a b s t) {τ:Int} (h1:2*hY s<τ) (h2:τ<2*hY t) (h3:2*hY a<τ) (h4:τ<2*hY b)
  (h0:dX a b s t τ=0):tw a b s=0/\tw a b t=0:=by
 have l1:=aeM a b s t (2*hY s) τ (2*hY t);have l2:=aeM a b s t (2*hY a) τ (2*hY b);rw [h0,Jy,ak9,ajL] at l1;rw [h0,Jy,ajM,ajN] at l2;have k1:tw a b s*(2*hY t-τ)+tw a b t*(τ-2*hY s)=0:=by
  have:(16777216*(hY t-hY s))*(tw a b s*(2*hY t-τ)+tw a b t*(τ-2*hY s))=0:=by
   rw [acw,<- qh,<- qh];exact l1.symm
  rcases WG.1 this with g | g
  · omega
  · exact g
 have k2:tw s t a*(2*hY b-τ)+tw s t b*(τ-2*hY a)=0:=by
  have:(16777216*(hY b-hY a))*(tw s t a*(2*hY b-τ)+tw s t b*(τ-2*hY a))=0:=by
   rw [acw,<- qh,<- qh];rw [SA,SA] at l2;omega
  rcases WG.1 this with g | g
  · omega
  · exact g
 have sg:∀ {u v p q:Int},0<p->0<q->u*p+v*q=0->(u<=0/\0<=v/\(u=0↔v=0))\/(0<=u/\v<=0/\(u=0↔v=0)):=by
  intro u v p q hp hq e;have a1:0<u->0<u*p:=fun h=>Ji h hp;have a2:u<0->u*p<0:=fun h=>Uf h hp;have a3:0<v->0<v*q:=fun h=>Ji h hq;have a4:v<0->v*q<0:=fun h=>Uf h hq;have a5:u=0->u*p=0:=fun h=>by rw [h,Jy]
  have a6:v=0->v*q=0:=fun h=>by rw [h,Jy]
  omega
 have g1:=sg (show 0<2*hY t-τ by omega) (show 0<τ-2*hY s by omega) k1;have g2:=sg (show 0<2*hY b-τ by omega) (show 0<τ-2*hY a by omega) k2;have d:=tX a b s t;by_cases hp:tw a b t-tw a b s=0
 · omega
 ·by_cases c1:a=s
  ·subst c1;have:=Xv a b
   omega
  by_cases c2:b=t
  ·subst c2;have:=Xw a b
   omega
  have NM:=hno c1 (fun e=>by rw [e] at h3;omega) (fun e=>by rw [e] at h4;omega) c2 hp;omega
section
variable {p:Pl} (h:Valid p)
include h
theorem Valid.ajP {a b:Ar} (ha:a∈p.AQ) (hb:b∈p.AQ) {k m:Nat} (hk:k+1<(AV p a).length) (hm:m+1<(AV p b).length) (hne:¬ (a=b/\k=m)) :
  ¬ (N9 ((AV p a).getD k AY) ((AV p a).getD (k+1) AY) ((AV p b).getD m AY) ((AV p b).getD (m+1) AY)=2/\N9 ((AV p b).getD m AY) ((AV p b).getD (m+1) AY) ((AV p a).getD k AY) ((AV p a).getD (k+1) AY)=2):=by
 have Xy:∀ {c d:Ar} {i j:Nat},c∈p.AQ->d∈p.AQ->i+1<(AV p c).length->j+1<(AV p d).length->EO [(AV p c).getD i AY,(AV p c).getD (i+1) AY,(AV p d).getD j AY,(AV p d).getD (j+1) AY]=true:=fun hc hd hi hj =>
  Xo (h.Dh hc AA) (h.Dh hc hi) (h.Dh hd AA) (h.Dh hd hj)
 have same:∀ {a:Ar} (ha:a∈p.AQ) {i j:Nat},i<j->j+1<(AV p a).length->N9 ((AV p a).getD i AY) ((AV p a).getD (i+1) AY) ((AV p a).getD j AY) ((AV p a).getD (j+1) AY)≠2:=by
  intro a ha i j hij hj;have hap:=h.Qd.2.1 a ha i j hij hj;unfold Rw Dc at hap;simp only at hap;unfold Fz at hap;rw [AZ (Xy ha ha AA hj)] at hap;intro e;rw [e] at hap;split at hap<;>exact absurd hap Aw
 have other:∀ {c d:Ar} {i j:Nat},c∈p.AQ->d∈p.AQ->i+1<(AV p c).length->j+1<(AV p d).length->Oh p (Dc p c i) (Dc p d j)=true ->
   N9 ((AV p c).getD i AY) ((AV p c).getD (i+1) AY) ((AV p d).getD j AY) ((AV p d).getD (j+1) AY)≠2:=by
  intro c d i j hc hd hi hj hjo e;unfold Oh Dc Fz at hjo;simp only at hjo;rw [AZ (Xy hc hd hi hj),e,AX Aw] at hjo;exact absurd hjo Aw
 rintro ⟨h1,h2⟩;by_cases hab:a=b
 ·subst hab;rcases QT k m with hkm | hkm | hkm
  · exact same ha hkm hm h1
  · exact hne ⟨rfl,hkm⟩
  · exact same ha hkm hk h2
 ·have hpw:=h.Qd.2.2;obtain ⟨i,hi,rfl⟩:=EF.1 ha;obtain ⟨j,hj,rfl⟩:=EF.1 hb;rw [G9] at hpw;rcases QT i j with hij | hij | hij
  · exact other ha hb hk hm (hpw i j hi hj hij k hk m hm) h1
  · subst hij;exact hab rfl
  · exact other hb ha hm hk (hpw j i hj hi hij m hm k hk) h2
theorem Valid.arP {c d:Ar} (hc:c∈p.AQ) (hd:d∈p.AQ) {k m:Nat} (hk:k+1<(AV p c).length) (hm:m+1<(AV p d).length) (hne:¬ (c=d/\k=m)) {a b s t:Pt}
  (hu:((AV p c).getD k AY=a/\(AV p c).getD (k+1) AY=b)\/((AV p c).getD k AY=b/\(AV p c).getD (k+1) AY=a))
  (hx:((AV p d).getD m AY=s/\(AV p d).getD (m+1) AY=t)\/((AV p d).getD m AY=t/\(AV p d).getD (m+1) AY=s))
  {τ:Int} (h1:2*hY s<τ) (h2:τ<2*hY t) (h3:2*hY a<τ) (h4:τ<2*hY b):dX a b s t τ≠0:=by
 intro h0;have n1:=h.Dh hc (k:=k) AA;have n2:=h.Dh hc (k:=k+1) hk;have n3:=h.Dh hd (k:=m) AA;have n4:=h.Dh hd (k:=m+1) hm;have NM:=fun h1 h2 h3 h4=>h.af5 hc hd hk hm h1 h2 h3 h4;have one:=h.ajP hc hd hk hm hne;generalize (AV p c).getD k AY=u at *;generalize (AV p c).getD (k+1) AY=v at *;generalize (AV p d).getD m AY=x at *;generalize (AV p d).getD (m+1) AY=y at *;have na:CJ a=true/\CJ b=true:=by rcases hu with ⟨rfl,rfl⟩ | ⟨rfl,rfl⟩<;>exact ⟨KX,KX⟩
 have ns:CJ s=true/\CJ t=true:=by rcases hx with ⟨rfl,rfl⟩ | ⟨rfl,rfl⟩<;>exact ⟨KX,KX⟩
 have hno:a≠s->a≠t->b≠s->b≠t->Me a b s t:=fun g1 g2 g3 g4=>by
  rcases hu with ⟨rfl,rfl⟩ | ⟨rfl,rfl⟩<;>rcases hx with ⟨rfl,rfl⟩ | ⟨rfl,rfl⟩
  · exact NM g1 g2 g3 g4
  · exact (NM g2 g1 g4 g3).comm.flip.comm
  · exact (NM g3 g4 g1 g2).flip
  · exact (NM g4 g3 g2 g1).flip.comm.flip.comm
 have hab:hY a<hY b:=AA
 have hst:hY s<hY t:=AA
 obtain ⟨z1,z2⟩:=arO na.1 na.2 ns.1 ns.2 hab hst hno h1 h2 h3 h4 h0;obtain ⟨z3,z4⟩:=oJ (fun e=>by rw [e] at hab;omega) z1 z2;exact one ⟨aeN hu hx hab hst z1 z2 AA AA,aeN hx hu hst hab z3 z4 AA AA⟩
end
theorem aeO {α:Type} (l:List α) (f:α->Int) (h:∀ x∈l,0<=f x):0<=(l.map f).sum:=by
 induction l with
 | nil=>exact dY _
 | cons a l ih =>
  rw [Ey,IC];have:=h a JC
  have:=ih fun x hx=>h x (LM _ hx)
  omega
theorem ajQ {α:Type} (l:List α) (f:α->Int) (h:∀ x∈l,0<=f x) (h1:∃ x∈l,0<f x):0<(l.map f).sum:=by
 induction l with
 | nil=>obtain ⟨x,hx,-⟩:=h1;cases hx
 | cons a l ih =>
  rw [Ey,IC];have h0:=h a JC;have h2:=aeO l f fun x hx=>h x (LM _ hx);obtain ⟨x,hx,hp⟩:=h1;rcases FI.1 hx with rfl | hx
  · omega
  ·have:=ih (fun x hx=>h x (LM _ hx)) ⟨x,hx,hp⟩
   omega
theorem ajR {α:Type} (l:List α) (f:α->List Int):(l.flatMap f).sum=(l.map fun x=>(f x).sum).sum:=by
 induction l with
 | nil=>rfl
 | cons a l ih=>rw [N7,O8,ih,Ey,IC]
def La (L:List (Int×Int)) (t:Int):Int:=(L.map fun v=>if t<v.1 then v.2 else 0).sum
def XP (L:List (Int×Int)) (t:Int):Int:=(L.map fun v=>if t<=v.1 then v.2 else 0).sum
theorem aeP {L:List (Int×Int)} (h2:∀ u∈L,u.2≠0->(La L u.1=0/\XP L u.1=1)\/(La L u.1=1/\XP L u.1=0)) :
  ∀ (n:Nat) (t:Int),(∀ v∈L,v.2≠0->v.1<=t+n)->La L t=0\/La L t=1
 | 0,t,h=>by
  left;refine XM _ _ fun v hv=>?_;by_cases h0:v.2=0
  · rw [h0];split<;>rfl
  ·have:=h v hv h0
   rw [AX AA]
 | n+1,t,h=>by
  by_cases hx:∃ v∈L,v.2≠0/\v.1=t+1
  ·obtain ⟨u,hu,h0,e⟩:=hx
   have:La L t=XP L u.1:=by
    refine IB _ _ _ fun v _=>?_;rw [e];by_cases c:t<v.1
    · rw [AZ c,AZ AA]
    · rw [AX c,AX AA]
   have:=h2 u hu h0
   omega
  ·have e:La L t=La L (t+1):=by
    refine IB _ _ _ fun v hv=>?_;by_cases h0:v.2=0
    · rw [h0];split<;>split<;>rfl
    ·have:v.1≠t+1:=fun e=>hx ⟨v,hv,h0,e⟩
     by_cases c:t<v.1
     · rw [AZ c,AZ AA]
     · rw [AX c,AX AA]
   rw [e];refine aeP h2 n (t+1) fun v hv h0=>?_;have:=h v hv h0
   omega
theorem aeQ:∀ (L:List (Int×Int)),∃ B:Nat,∀ v∈L,-(B:Int)<v.1/\v.1<B
 | []=>⟨0,fun _ h=>by cases h⟩
 | a::L=>by
  obtain ⟨B,hB⟩:=aeQ L;refine ⟨B+a.1.natAbs+1,fun v hv=>?_⟩;rcases FI.1 hv with rfl | hv
  · omega
  ·have:=hB v hv
   omega
theorem cnt_lt (n m:Nat) (h:m<=n):((List.range n).map fun k:Nat=>if (k:Int)<m then (1:Int) else 0).sum=m:=by
 induction n generalizing m with
 | zero =>
  have:m=0:=AA
  subst this;rfl
 | succ n ih =>
  rw [XY,FH,O8];simp only [Ey,O9,IC,Vz];by_cases h1:m<=n
  · rw [ih m h1,AX AA];omega
  ·have hm:m=n+1:=AA
   subst hm;rw [AZ AA];have:=ih n (Cj _)
   rw [IB _ _ (fun k:Nat=>if (k:Int)<n then (1:Int) else 0) (fun k hk=>by
    have:=FQ.1 hk
    rw [AZ AA,AZ AA]),this]
   omega
theorem arQ {L:List (Int×Int)} (h2:∀ u∈L,u.2≠0->(La L u.1=0/\XP L u.1=1)\/(La L u.1=1/\XP L u.1=0)) (h3:(L.map (·.2)).sum=0) :
  0<=(L.map fun u=>u.1*u.2).sum/\((∃ u∈L,u.2≠0)->0<(L.map fun u=>u.1*u.2).sum):=by
 obtain ⟨B,hB⟩:=aeQ L;have e:(L.map fun u=>u.1*u.2).sum=((List.range (2*B)).map fun k:Nat=>La L ((k:Int)-B)).sum:=by
  have e1:(L.map fun u=>u.1*u.2).sum=(L.map fun u=>u.1*u.2+(B:Int)*u.2).sum:=by
   rw [RQ L (fun u=>u.1*u.2) (fun u=>(B:Int)*u.2),Xx L (B:Int) (fun u=>u.2),h3,KO,eF]
  rw [e1];unfold La;rw [ajq];refine IB _ _ _ fun u hu=>?_;have hb:=hB u hu;have c:=cnt_lt (2*B) (u.1+B).toNat AA;rw [IB _ _ (fun k:Nat=>u.2*(if (k:Int)<(u.1+B).toNat then (1:Int) else 0)) (fun k hk=>by
   by_cases g:(k:Int)-B<u.1
   · rw [AZ g,AZ AA,Int.mul_one]
   · rw [AX g,AX AA,KO]),Xx,c,show (((u.1+B).toNat:Nat):Int)=u.1+B by omega]
  rw [<- Int.add_mul,OB]
 have W:∀ t,La L t=0\/La L t=1:=fun t=>aeP h2 (B+t.natAbs) t fun v hv _=>by
  have:=hB v hv
  omega
 rw [e];refine ⟨aeO _ _ fun k _=>?_,fun ⟨u,hu,h0⟩=>ajQ _ _ (fun k _=>?_) ?_⟩
 · have:=W ((k:Int)-B);omega
 · have:=W ((k:Int)-B);omega
 ·have hb:=hB u hu;rcases h2 u hu h0 with ⟨-,g⟩ | ⟨g,-⟩
  ·refine ⟨(u.1-1+B).toNat,FQ.2 AA,?_⟩;rw [show (((u.1-1+B).toNat:Nat):Int)-B=u.1-1 by omega]
   have:La L (u.1-1)=XP L u.1:=by
    refine IB _ _ _ fun v _=>?_;by_cases c:u.1<=v.1
    · rw [AZ c,AZ AA]
    · rw [AX c,AX AA]
   omega
  ·refine ⟨(u.1+B).toNat,FQ.2 AA,?_⟩;rw [show (((u.1+B).toNat:Nat):Int)-B=u.1 by omega];omega
theorem ajS (T:Nat) (u v:Int) (m:Nat):∀ n:Nat,((List.range n).map fun j:Nat=>if 2*(j:Int)+1-2*T<2*((m:Int)-T) then u+v*(2*(j:Int)+1-2*T) else 0).sum=u*(min n m:Nat)+v*((min n m:Nat)*(min n m:Nat)-2*T*(min n m:Nat))
 | 0=>by simp
 | n+1=>by
  rw [XY,FH,O8,ajS T u v m n];simp only [Ey,O9,IC,Vz,eF];by_cases h:n<m
  ·rw [AZ AA,Nat.min_eq_left AA,Nat.min_eq_left AA];rw [show ((n+1:Nat):Int)=(n:Int)+1 by omega]
   grind
  · rw [AX AA,ahA AA,ahA AA,eF]
def KG (T j:Nat):Int:=2*(j:Int)+1-2*T
theorem arR {T:Nat} {a b:Pt} (ha:-(T:Int)<=hY a/\hY a<=T) (hb:-(T:Int)<=hY b/\hY b<=T) :
  ((List.range (2*T)).map fun j=>Ef (KG T j) a b*xN a b (KG T j)).sum=(hY b-hY a)*(hY b-hY a)*(a.x+b.x):=by
 have f:∀ c:Pt,-(T:Int)<=hY c/\hY c<=T->((List.range (2*T)).map fun j=>if KG T j<2*hY c then xN a b (KG T j) else 0).sum=2*(a.x*hY b-b.x*hY a)*(hY c+T)+(b.x-a.x)*((hY c+T)*(hY c+T)-2*T*(hY c+T)):=by
  intro c hc;have:=ajS T (2*(a.x*hY b-b.x*hY a)) (b.x-a.x) (hY c+T).toNat (2*T)
  rw [ahA AA,show (((hY c+T).toNat:Nat):Int)=hY c+T by omega] at this;rw [<- this];refine IB _ _ _ fun j _=>?_;have e:xN a b (KG T j)=2*(a.x*hY b-b.x*hY a)+(b.x-a.x)*KG T j:=by unfold xN;grind
  rw [e,show hY c+(T:Int)-T=hY c by omega];rfl
 have e:((List.range (2*T)).map fun j=>Ef (KG T j) a b*xN a b (KG T j)).sum=((List.range (2*T)).map fun j=>(if KG T j<2*hY b then xN a b (KG T j) else 0) + -(if KG T j<2*hY a then xN a b (KG T j) else 0)).sum:=by
  refine IB _ _ _ fun j _=>?_;unfold Ef;split<;>split<;>omega
 rw [e,RQ,U2,f b hb,f a ha];generalize hY a=A;generalize hY b=B
 grind
theorem aeR (p:Pl) (z:Int->Int) (c:Int) (f:Pt->Pt->Int):EC p z (fun a b=>c*f a b)=c*EC p z f:=by
 unfold EC Ko;rw [<- Xx];refine IB _ _ _ fun a _=>?_;rw [Xx,<- qh,OB (z a.id),qh]
theorem arS (p:Pl) (z:Int->Int):EC p z (fun _ _=>0)=0:=by
 have:=aeR p z 0 (fun _ _=>0)
 rw [Jy] at this;simpa using this
theorem ajT {β:Type} (p:Pl) (z:Int->Int) (f:β->Pt->Pt->Int):∀ l:List β,EC p z (fun a b=>(l.map fun j=>f j a b).sum)=(l.map fun j=>EC p z (f j)).sum
 | []=>arS p z
 | j::l=>by
  simp only [Ey,IC];rw [fV p z (f j) (fun a b=>(l.map fun j=>f j a b).sum),ajT p z f l]
def xE (D:Int) (a b:Pt) (τ:Int):Int:=xN a b τ*(D / (hY b-hY a))
theorem bV (D:Int) (a b:Pt) (τ:Int):xE D b a τ=xE D a b τ:=by
 unfold xE;rw [asA,show hY a-hY b=-(hY b-hY a) by omega,Int.ediv_neg,Int.neg_mul_neg]
theorem uI {D:Int} (hD:0<D) {a b s t:Pt} {τ:Int} (hab:hY a<hY b) (hst:hY s<hY t) (d1:hY b-hY a∣D) (d2:hY t-hY s∣D) :
  (xE D s t τ<xE D a b τ↔0<dX a b s t τ)/\(xE D s t τ=xE D a b τ↔dX a b s t τ=0):=by
 obtain ⟨q,hq⟩:=d1;obtain ⟨r,hr⟩:=d2;unfold xE;have e1:D / (hY b-hY a)=q:=by rw [hq];exact acz _ AA
 have e2:D / (hY t-hY s)=r:=by rw [hr];exact acz _ AA
 rw [e1,e2];unfold dX;generalize xN a b τ=X at *;generalize xN s t τ=Y at *;have hn:0<hY b-hY a:=AA
 have hm:0<hY t-hY s:=AA
 generalize hY b-hY a=n at *;generalize hY t-hY s=m at *;have k:(X*q-Y*r)*(n*m)=D*(X*m-Y*n):=by
  have h1:(X*q-Y*r)*(n*m)=(n*q)*(X*m)-(m*r)*(Y*n):=by grind
  rw [h1,<- hq,<- hr,dw]
 have hnm:=Ji hn hm;generalize n*m=w at *;generalize X*m-Y*n=x at *;have a1:0<X*q-Y*r->0<(X*q-Y*r)*w:=fun h=>Ji h hnm;have a2:X*q-Y*r<0->(X*q-Y*r)*w<0:=fun h=>Uf h hnm;have a3:X*q-Y*r=0->(X*q-Y*r)*w=0:=fun h=>by rw [h,Jy]
 have b1:0<x->0<D*x:=fun h=>Ji hD h;have b2:x<0->D*x<0:=fun h=>WE hD h;have b3:x=0->D*x=0:=fun h=>by rw [h,KO]
 rw [k] at a1 a2 a3;generalize D*x=Dx at *;generalize X*q=g1 at *;generalize Y*r=g2 at *;constructor<;>constructor<;>intro<;>omega
theorem aeS:∀ l:List Int,(∀ x∈l,x≠0)->∃ D,0<D/\∀ x∈l,x∣D
 | [],_=>⟨1,AA,fun _ h=>by cases h⟩
 | a::l,h=>by
  obtain ⟨D,h1,h2⟩:=aeS l fun x hx=>h x (LM _ hx);have ha:=h a JC;refine ⟨(a.natAbs:Int)*D,Ji AA h1,fun x hx=>?_⟩;rcases FI.1 hx with rfl | hx
  · exact Int.dvd_trans (Int.dvd_natAbs_self) (Int.dvd_mul_right _ _)
  · exact Int.dvd_trans (h2 x hx) (Int.dvd_mul_left _ _)
def NS (p:Pl) (z:Int->Int) (D τ:Int):List (Int×Int):=p.AQ.flatMap fun a=>(List.range ((AV p a).length-1)).map fun k =>
 (xE D ((AV p a).getD k AY) ((AV p a).getD (k+1) AY) τ,z a.id*Ef τ ((AV p a).getD k AY) ((AV p a).getD (k+1) AY))
theorem mO (p:Pl) (z:Int->Int) (D τ:Int) (G:Int->Int->Int) (hG:∀ x c s,G x (c*s)=c*G x s) :
  ((NS p z D τ).map fun u=>G u.1 u.2).sum=EC p z (fun a b=>G (xE D a b τ) (Ef τ a b)):=by
 unfold NS EC Ko;rw [agx,ajR];refine IB _ _ _ fun a _=>?_;rw [IW,<- Xx];refine IB _ _ _ fun k _=>?_;exact hG _ _ _
section
variable {p:Pl} (h:Valid p)
include h
theorem Valid.uJ {z:Int->Int} (hz:GR p z) {a:Ar} (ha:a∈p.AQ) {m:Nat} (hm:m+1<(AV p a).length) :
  Kq p z ((AV p a).getD m AY) ((AV p a).getD (m+1) AY)=Hz p z (-a.id)/\Kq p z ((AV p a).getD (m+1) AY) ((AV p a).getD m AY)=Hz p z a.id:=by
 have hl:=Fa p a;have hid:=(h.IQ ha).1;have s0:=h.aeJ hz ha hm;have s1:=h.ab1 hz ha m hm;have s2:=h.ab1 hz ha a.via.length AA;have hp:=h.XO hz ha;have h2:(AV p a).getD (a.via.length+1) AY=nodeAt p a.dst:=by
  have:=Vp p a
  rwa [hl,show a.via.length+2-1=a.via.length+1 by omega] at this
 have hn:Hz p z (-a.id)=Oy p z ((AV p a).getD (a.via.length+1) AY) ((AV p a).getD a.via.length AY):=by
  unfold Hz;rw [h.uX ha,h.bI ha,h2]
 have j2:Oy p z ((AV p a).getD (m+1) AY) ((AV p a).getD m AY)-Kq p z ((AV p a).getD (m+1) AY) ((AV p a).getD m AY)=-z a.id:=by
  by_cases h0:m+1=(AV p a).length-1
  ·obtain ⟨n,hn,e1,e2⟩:=h.sound.Xn ha;have:=h.oI hz hn (d:=-a.id) (Qg.2 ⟨a,ha,.inr ⟨rfl,e1.symm⟩⟩)
   rw [h.bI ha,show a.via.length=m by omega] at this;rw [h0,Vp,e2,this];unfold zD;rw [AX AA,OX]
  · exact h.ak0 z ha AA
 omega
theorem Valid.arT {z:Int->Int} {a:Ar} (ha:a∈p.AQ) {m:Nat} (hm:m+1<(AV p a).length) {f:Pt->Pt->Int}
  (h0:∀ c∈p.AQ,z c.id≠0->∀ k,k+1<(AV p c).length->¬ (c=a/\k=m)->f ((AV p c).getD k AY) ((AV p c).getD (k+1) AY)=0) :
  EC p z f=z a.id*f ((AV p a).getD m AY) ((AV p a).getD (m+1) AY):=by
 unfold EC Ko;have:=tZ p.AQ (·.id) h.sound.AQ (fun _=>z a.id*f ((AV p a).getD m AY) ((AV p a).getD (m+1) AY)) a.id ⟨a,ha,rfl⟩
 rw [<- this];refine IB _ _ _ fun c hc=>?_;by_cases hz0:z c.id=0
 ·rw [hz0,Jy];by_cases e:a.id=c.id
  · rw [AZ e,e,hz0,Jy]
  · rw [AX e]
 by_cases e:a.id=c.id
 ·have:=h.aic ha hc e
  subst this;rw [AZ rfl,tY _ m (fun k=>f ((AV p a).getD k AY) ((AV p a).getD (k+1) AY)) (fun k hk hne=>h0 a ha hz0 k AA (fun e=>hne e.2)),AZ AA]
 · rw [AX e,XM _ _ (fun k hk=>h0 c hc hz0 k yI (fun e2=>e (by rw [e2.1]))),KO]
def SY (p:Pl) (z:Int->Int) (τ:Int):Prop:=∀ a∈p.AQ,z a.id≠0->∀ k,k<(AV p a).length->2*hY ((AV p a).getD k AY)≠τ
omit h in
theorem SY.odd (z:Int->Int) {τ:Int} (hτ:τ % 2=1):SY p z τ:=fun a _ _ k _=>AA
omit h in
theorem ab6 {z:Int->Int} {f g:Pt->Pt->Int} (h:∀ a∈p.AQ,z a.id≠0->∀ k,k+1<(AV p a).length->f ((AV p a).getD k AY) ((AV p a).getD (k+1) AY)=g ((AV p a).getD k AY) ((AV p a).getD (k+1) AY)):EC p z f=EC p z g:=by
 unfold EC Ko;refine IB _ _ _ fun a ha=>?_;by_cases h0:z a.id=0
 · rw [h0,Jy,Jy]
 · rw [IB _ _ (fun k=>g ((AV p a).getD k AY) ((AV p a).getD (k+1) AY)) (fun k hk=>h a ha h0 k yI)]
theorem Valid.beyond {z:Int->Int} (hz:GR p z) {D:Int} (hD:0<D) (hd:∀ a∈p.AQ,∀ k,k+1<(AV p a).length->hY ((AV p a).getD (k+1) AY)-hY ((AV p a).getD k AY)∣D)
  {τ:Int} (hτ:SY p z τ) {c:Ar} (hc:c∈p.AQ) {m:Nat} (hm:m+1<(AV p c).length) {s t:Pt}
  (he:(s=(AV p c).getD m AY/\t=(AV p c).getD (m+1) AY)\/(t=(AV p c).getD m AY/\s=(AV p c).getD (m+1) AY)) (h1:2*hY s<τ) (h2:τ<2*hY t) :
  EC p z (fun a b=>if xE D s t τ<xE D a b τ then Ef τ a b else 0)=Kq p z s t:=by
 have ht:=h.tu hz (fun v=>-wR s t τ v);have e:EC p z (fun a b=>if xE D s t τ<xE D a b τ then Ef τ a b else 0)=EC p z (fun a b=>PY s t a b+(-wR s t τ b - -wR s t τ a)):=by
  refine ab6 fun a ha hza k hk=>?_;have na:=h.Dh ha (k:=k) AA;have nb:=h.Dh ha (k:=k+1) hk;have n1:=h.Dh hc (k:=m) AA;have n2:=h.Dh hc (k:=m+1) hm;have hne:=(h.distinct ha hk).1;have NM:=fun h1 h2 h3 h4=>h.af5 ha hc hk hm h1 h2 h3 h4;have da:=hd a ha k hk;have fx:=hτ a ha hza k AA;have fy:=hτ a ha hza (k+1) hk;have dc:=hd c hc m hm;generalize (AV p a).getD k AY=x at *;generalize (AV p a).getD (k+1) AY=y at *;generalize (AV p c).getD m AY=e at *;generalize (AV p c).getD (m+1) AY=f at *;have ns:CJ s=true:=by rcases he with ⟨rfl,-⟩ | ⟨-,rfl⟩<;>assumption
  have nt:CJ t=true:=by rcases he with ⟨-,rfl⟩ | ⟨rfl,-⟩<;>assumption
  have dst:hY t-hY s∣D:=by
   rcases he with ⟨rfl,rfl⟩ | ⟨rfl,rfl⟩
   · exact dc
   · rw [show hY t-hY s=-(hY s-hY t) by omega];exact qj.2 dc
  have uF:x≠s->x≠t->y≠s->y≠t->Me x y s t:=fun h1 h2 h3 h4=>by
   rcases he with ⟨rfl,rfl⟩ | ⟨rfl,rfl⟩
   · exact NM h1 h2 h3 h4
   · exact (NM h2 h1 h4 h3).comm.flip.comm
  have hst:hY s<hY t:=AA
  have up:∀ {a b:Pt},2*hY a≠τ->2*hY b≠τ->CJ a=true->CJ b=true->hY a<hY b->hY b-hY a∣D->(a≠s->a≠t->b≠s->b≠t->Me a b s t) ->
    (if xE D s t τ<xE D a b τ then Ef τ a b else 0)=PY s t a b+(-wR s t τ b - -wR s t τ a):=by
   intro a b fa fb na nb hab da NM;have e:=arL na nb ns nt hab hst NM fa fb h1 h2;have k:=(uI (τ:=τ) hD hab hst da dst).1;have e2:PY s t a b+(-wR s t τ b - -wR s t τ a)=PY s t a b+(wR s t τ a-wR s t τ b):=AA
   rw [e2,<- e];unfold Ef;by_cases g:0<dX a b s t τ
   ·rw [AZ (k.2 g)];by_cases g1:2*hY a<τ<;>by_cases g2:τ<2*hY b
    · rw [AZ g2,AX AA,AZ ⟨g1,g2,g⟩];rfl
    · rw [AX g2,AX AA,AX (fun e=>g2 e.2.1)];rfl
    · rw [AZ g2,AZ AA,AX (fun e=>g1 e.1)];rfl
    · omega
   · rw [AX (fun e=>g (k.1 e)),AX (fun e=>g e.2.2)]
  rcases Iw (hY x) (hY y) with c1 | c1 | c1
  · exact up fx fy na nb c1 da uF
  · exact absurd (Md na nb c1) hne
  ·have:=up fy fx nb na c1 (by rw [show hY x-hY y=-(hY y-hY x) by omega];exact qj.2 da) (fun h1 h2 h3 h4=>(uF h3 h4 h1 h2).flip)
   rw [bV D x y τ,ajw s t x y] at this;have e3:Ef τ y x=-Ef τ x y:=by unfold Ef;omega
   rw [e3] at this;split at this<;>split<;>first | omega | contradiction
 rw [e,fV p z (PY s t) (fun a b=>-wR s t τ b - -wR s t τ a),ht,eF];rfl
end
theorem ab7 {τ:Int} {x y:Pt} (hx:2*hY x≠τ) (hy:2*hY y≠τ) (h0:Ef τ x y≠0):(2*hY x<τ/\τ<2*hY y/\Ef τ x y=1)\/(2*hY y<τ/\τ<2*hY x/\Ef τ x y=-1):=by
 unfold Ef at *;by_cases c1:τ<2*hY y<;>by_cases c2:τ<2*hY x
 · exact absurd (by rw [AZ c1,AZ c2];rfl) h0
 · exact .inl ⟨AA,c1,by rw [AZ c1,AX c2];rfl⟩
 · exact .inr ⟨AA,c2,by rw [AX c1,AZ c2];rfl⟩
 · exact absurd (by rw [AX c1,AX c2];rfl) h0
section
variable {p:Pl} (h:Valid p)
include h
theorem Valid.arU {D:Int} (hD:0<D) (hd:∀ a∈p.AQ,∀ k,k+1<(AV p a).length->hY ((AV p a).getD (k+1) AY)-hY ((AV p a).getD k AY)∣D)
  {τ:Int} {z:Int->Int} (hτ:SY p z τ) {c d:Ar} (hc:c∈p.AQ) (hzc:z c.id≠0) (hd':d∈p.AQ) (hzd:z d.id≠0) {k m:Nat} (hk:k+1<(AV p c).length) (hm:m+1<(AV p d).length) (hne:¬ (c=d/\k=m))
  (h1:Ef τ ((AV p c).getD k AY) ((AV p c).getD (k+1) AY)≠0) (h2:Ef τ ((AV p d).getD m AY) ((AV p d).getD (m+1) AY)≠0) :
  xE D ((AV p d).getD m AY) ((AV p d).getD (m+1) AY) τ≠xE D ((AV p c).getD k AY) ((AV p c).getD (k+1) AY) τ:=by
 have dc:=hd c hc k hk;have dd:=hd d hd' m hm;have N:=fun a b s t=>h.arP (a:=a) (b:=b) (s:=s) (t:=t) hc hd' hk hm hne;have s1:=ab7 (hτ c hc hzc k AA) (hτ c hc hzc (k+1) hk) h1;have s2:=ab7 (hτ d hd' hzd m AA) (hτ d hd' hzd (m+1) hm) h2;generalize (AV p c).getD k AY=u at *;generalize (AV p c).getD (k+1) AY=v at *;generalize (AV p d).getD m AY=x at *;generalize (AV p d).getD (m+1) AY=y at *;have dc':hY u-hY v∣D:=by rw [show hY u-hY v=-(hY v-hY u) by omega];exact qj.2 dc
 have dd':hY x-hY y∣D:=by rw [show hY x-hY y=-(hY y-hY x) by omega];exact qj.2 dd
 intro e;rcases s1 with ⟨a1,a2,-⟩ | ⟨a1,a2,-⟩<;>rcases s2 with ⟨b1,b2,-⟩ | ⟨b1,b2,-⟩
 · exact N u v x y (.inl ⟨rfl,rfl⟩) (.inl ⟨rfl,rfl⟩) b1 b2 a1 a2 ((uI hD AA AA dc dd).2.1 e)
 · exact N u v y x (.inl ⟨rfl,rfl⟩) (.inr ⟨rfl,rfl⟩) b1 b2 a1 a2 ((uI hD AA AA dc dd').2.1 (by rw [bV];exact e))
 · exact N v u x y (.inr ⟨rfl,rfl⟩) (.inl ⟨rfl,rfl⟩) b1 b2 a1 a2 ((uI hD AA AA dc' dd).2.1 (by rw [bV D u v];exact e))
 · exact N v u y x (.inr ⟨rfl,rfl⟩) (.inr ⟨rfl,rfl⟩) b1 b2 a1 a2 ((uI hD AA AA dc' dd').2.1 (by rw [bV,bV D u v];exact e))
theorem Valid.aeT {z:Int->Int} (hz:GR p z) {D:Int} (hD:0<D) (hd:∀ a∈p.AQ,∀ k,k+1<(AV p a).length->hY ((AV p a).getD (k+1) AY)-hY ((AV p a).getD k AY)∣D) {τ:Int} (hτ:SY p z τ)
  {a:Ar} (ha:a∈p.AQ) {k:Nat} (hk:k+1<(AV p a).length) (hs:(2*hY ((AV p a).getD k AY)<τ/\τ<2*hY ((AV p a).getD (k+1) AY))\/(2*hY ((AV p a).getD (k+1) AY)<τ/\τ<2*hY ((AV p a).getD k AY))) :
  La (NS p z D τ) (xE D ((AV p a).getD k AY) ((AV p a).getD (k+1) AY) τ)=(if hY ((AV p a).getD k AY)<hY ((AV p a).getD (k+1) AY) then Hz p z (-a.id) else Hz p z a.id) /\
  (z a.id≠0->XP (NS p z D τ) (xE D ((AV p a).getD k AY) ((AV p a).getD (k+1) AY) τ)=(if hY ((AV p a).getD k AY)<hY ((AV p a).getD (k+1) AY) then Hz p z a.id else Hz p z (-a.id))):=by
 have hp:=h.XO hz ha;obtain ⟨r1,r2⟩:=h.uJ hz ha hk;have own:=fun (hz0:z a.id≠0) (hs0:Ef τ ((AV p a).getD k AY) ((AV p a).getD (k+1) AY)≠0)=>h.arT (z:=z) ha hk (f:=fun x y=>if xE D ((AV p a).getD k AY) ((AV p a).getD (k+1) AY) τ=xE D x y τ then Ef τ x y else 0) (fun c hc hzc m hm hne=>by
  by_cases g:Ef τ ((AV p c).getD m AY) ((AV p c).getD (m+1) AY)=0
  · rw [g];split<;>rfl
  · exact AX (h.arU hD hd hτ hc hzc ha hz0 hm hk hne g hs0))
 rw [AZ rfl] at own;have by1:=h.beyond hz hD hd hτ ha hk (s:=(AV p a).getD k AY) (t:=(AV p a).getD (k+1) AY) (.inl ⟨rfl,rfl⟩);have aaZ:=h.beyond hz hD hd hτ ha hk (t:=(AV p a).getD k AY) (s:=(AV p a).getD (k+1) AY) (.inr ⟨rfl,rfl⟩);rw [bV D ((AV p a).getD k AY)] at aaZ;rw [r1] at by1;rw [r2] at aaZ;have sg:Ef τ ((AV p a).getD k AY) ((AV p a).getD (k+1) AY)=if hY ((AV p a).getD k AY)<hY ((AV p a).getD (k+1) AY) then 1 else -1:=by
  unfold Ef;rcases hs with ⟨g1,g2⟩ | ⟨g1,g2⟩
  · rw [AZ g2,AX AA,AZ AA];rfl
  · rw [AX AA,AZ g2,AX AA];rfl
 generalize xE D ((AV p a).getD k AY) ((AV p a).getD (k+1) AY) τ=X at *;have bS:La (NS p z D τ) X=EC p z (fun a b=>if X<xE D a b τ then Ef τ a b else 0) :=
  mO p z D τ (fun x s=>if X<x then s else 0) (fun x c s=>by split<;>simp)
 have bE:XP (NS p z D τ) X=EC p z (fun a b=>if X<xE D a b τ then Ef τ a b else 0)+EC p z (fun a b=>if X=xE D a b τ then Ef τ a b else 0):=by
  rw [<- fV];have:=mO p z D τ (fun x s=>if X<=x then s else 0) (fun x c s=>by split<;>simp)
  refine this.trans (tq fun c _ m _=>?_);rcases Iw X (xE D ((AV p c).getD m AY) ((AV p c).getD (m+1) AY) τ) with g | g | g
  · rw [AZ AA,AZ g,AX AA];omega
  · rw [AZ AA,AX AA,AZ g];omega
  · rw [AX AA,AX AA,AX AA];rfl
 rw [bS];have own':=fun hz0=>own hz0 (by rw [sg];split<;>omega);rcases hs with ⟨g1,g2⟩ | ⟨g1,g2⟩
 ·rw [AZ AA] at sg ⊢;rw [AZ AA];refine ⟨by1 g1 g2,fun hz0=>?_⟩;rw [bE,own' hz0,by1 g1 g2,sg];omega
 ·rw [AX AA] at sg ⊢;rw [AX AA];refine ⟨aaZ g1 g2,fun hz0=>?_⟩;rw [bE,own' hz0,aaZ g1 g2,sg];omega
theorem Valid.arV {z:Int->Int} (hz:GR p z) (D τ:Int):((NS p z D τ).map (·.2)).sum=0:=by
 rw [mO p z D τ (fun _ s=>s) (fun _ _ _=>rfl)];exact h.tu hz (fun v=>if τ<2*hY v then 1 else 0)
theorem Valid.ajU {z:Int->Int} (hz:GR p z) (hw:∀ a∈p.AQ,z a.id≠0->(Hz p z (-a.id)=0/\Hz p z a.id=1)\/(Hz p z (-a.id)=1/\Hz p z a.id=0))
  {D:Int} (hD:0<D) (hd:∀ a∈p.AQ,∀ k,k+1<(AV p a).length->hY ((AV p a).getD (k+1) AY)-hY ((AV p a).getD k AY)∣D) {τ:Int} (hτ:SY p z τ) :
  ∀ u∈NS p z D τ,u.2≠0->(La (NS p z D τ) u.1=0/\XP (NS p z D τ) u.1=1)\/(La (NS p z D τ) u.1=1/\XP (NS p z D τ) u.1=0):=by
 intro u hu hu0;obtain ⟨a,ha,hu⟩:=Ii.1 hu;obtain ⟨k,hk,rfl⟩:=Ez.1 hu;have hk:=FQ.1 hk;have hk:k+1<(AV p a).length:=AA
 simp only at hu0 ⊢;have hz0:z a.id≠0:=fun e=>hu0 (by rw [e,Jy]);have hs0:Ef τ ((AV p a).getD k AY) ((AV p a).getD (k+1) AY)≠0:=fun e=>hu0 (by rw [e,KO]);have hW:=hw a ha hz0;have hsp:=ab7 (hτ a ha hz0 k AA) (hτ a ha hz0 (k+1) hk) hs0;obtain ⟨b1,b2⟩:=h.aeT hz hD hd hτ ha hk (by
  rcases hsp with ⟨g1,g2,-⟩ | ⟨g1,g2,-⟩
  · exact .inl ⟨g1,g2⟩
  · exact .inr ⟨g1,g2⟩)
 rw [b1,b2 hz0];split<;>omega
theorem Valid.arW {z:Int->Int} (hz:GR p z) (hw:∀ a∈p.AQ,z a.id≠0->(Hz p z (-a.id)=0/\Hz p z a.id=1)\/(Hz p z (-a.id)=1/\Hz p z a.id=0))
  {D:Int} (hD:0<D) (hd:∀ a∈p.AQ,∀ k,k+1<(AV p a).length->hY ((AV p a).getD (k+1) AY)-hY ((AV p a).getD k AY)∣D) {τ:Int} (hτ:τ % 2=1) :
  0<=EC p z (fun a b=>xE D a b τ*Ef τ a b)/\((∃ a∈p.AQ,∃ k,k+1<(AV p a).length/\z a.id≠0/\Ef τ ((AV p a).getD k AY) ((AV p a).getD (k+1) AY)≠0)->0<EC p z (fun a b=>xE D a b τ*Ef τ a b)):=by
 have e0:=mO p z D τ (fun x s=>x*s) (fun x c s=>by grind);have:=arQ (h.ajU hz hw hD hd (SY.odd z hτ)) (h.arV hz D τ)
 rw [e0] at this;refine ⟨this.1,fun ⟨a,ha,k,hk,h4,h5⟩=>this.2 ⟨(xE D ((AV p a).getD k AY) ((AV p a).getD (k+1) AY) τ,z a.id*Ef τ ((AV p a).getD k AY) ((AV p a).getD (k+1) AY)),?_,fun e=>?_⟩⟩
 · exact Ii.2 ⟨a,ha,Ez.2 ⟨k,FQ.2 AA,rfl⟩⟩
 ·rcases WG.1 e with e | e
  · exact h4 e
  · exact h5 e
theorem Valid.arX {z:Int->Int} (hz:GR p z) {T:Nat} (hT:∀ q,CJ q=true->-(T:Int)<=hY q/\hY q<=T)
  {D:Int} (hd:∀ a∈p.AQ,∀ k,k+1<(AV p a).length->hY ((AV p a).getD (k+1) AY)-hY ((AV p a).getD k AY)∣D) :
  D*(8388608*EC p z Ox)=((List.range (2*T)).map fun j=>EC p z (fun a b=>xE D a b (KG T j)*Ef (KG T j) a b)).sum:=by
 rw [<- ajT p z (fun j a b=>xE D a b (KG T j)*Ef (KG T j) a b),<- aeR,<- aeR];have t:=h.tu hz (fun v=>D*(v.x*hY v));have e:EC p z (fun a b=>((List.range (2*T)).map fun j=>xE D a b (KG T j)*Ef (KG T j) a b).sum)=EC p z (fun a b=>D*(8388608*Ox a b)+(D*(b.x*hY b)-D*(a.x*hY a))):=by
  refine tq fun a ha k hk=>?_;have na:=h.Dh ha (k:=k) AA;have nb:=h.Dh ha (k:=k+1) hk;have hne:=(h.distinct ha hk).1;have da:=hd a ha k hk;generalize (AV p a).getD k AY=x at *;generalize (AV p a).getD (k+1) AY=y at *;have hn:hY y-hY x≠0:=fun e=>hne (Md na nb AA);have es:=arR (hT x na) (hT y nb);obtain ⟨q,hq⟩:=da;have eq:D / (hY y-hY x)=q:=by rw [hq];exact acz _ hn
  unfold xE;rw [eq,IB _ _ (fun j=>q*(Ef (KG T j) x y*xN x y (KG T j))) (fun j _=>by grind),Xx,es];have hc:8388608*Ox x y=x.x*hY y-y.x*hY x:=by unfold Ox hY;grind
  rw [hc,hq];generalize hY x=A;generalize hY y=B
  grind
 rw [e,fV p z (fun a b=>D*(8388608*Ox a b)) (fun a b=>D*(b.x*hY b)-D*(a.x*hY a)),t,eF]
theorem Valid.aeU {z:Int->Int} (hz:GR p z) (hw:∀ a∈p.AQ,z a.id≠0->(Hz p z (-a.id)=0/\Hz p z a.id=1)\/(Hz p z (-a.id)=1/\Hz p z a.id=0)) :
  0<=EC p z Ox/\((∃ a∈p.AQ,z a.id≠0)->0<EC p z Ox):=by
 obtain ⟨T,hT⟩:∃ T:Nat,∀ q,CJ q=true->-(T:Int)<=hY q/\hY q<=T:=⟨17592188141568,fun q hq=>by
  rw [SH] at hq;unfold hY;omega⟩
 have hsep:∀ a∈p.AQ,∀ k,k+1<(AV p a).length->hY ((AV p a).getD (k+1) AY)-hY ((AV p a).getD k AY)≠0:=fun a ha k hk e =>
  (h.distinct ha hk).1 (Md (h.Dh ha AA) (h.Dh ha hk) AA)
 obtain ⟨D,hD,hd⟩:∃ D:Int,0<D/\∀ a∈p.AQ,∀ k,k+1<(AV p a).length->hY ((AV p a).getD (k+1) AY)-hY ((AV p a).getD k AY)∣D:=by
  obtain ⟨D,h1,h2⟩:=aeS (p.AQ.flatMap fun a=>(List.range ((AV p a).length-1)).map fun k=>hY ((AV p a).getD (k+1) AY)-hY ((AV p a).getD k AY)) (fun x hx=>by
   obtain ⟨a,ha,hx⟩:=Ii.1 hx;obtain ⟨k,hk,rfl⟩:=Ez.1 hx;exact hsep a ha k yI)
  exact ⟨D,h1,fun a ha k hk=>h2 _ (Ii.2 ⟨a,ha,Ez.2 ⟨k,FQ.2 AA,rfl⟩⟩)⟩
 have e:=h.arX hz hT hd;have odd:∀ j,KG T j % 2=1:=fun j=>by unfold KG;omega
 have S:=fun j=>h.arW hz hw hD hd (odd j);refine ⟨?_,fun ⟨a,ha,hza⟩=>?_⟩
 ·have h0:=aeO (List.range (2*T)) (fun j=>EC p z (fun a b=>xE D a b (KG T j)*Ef (KG T j) a b)) (fun j _=>(S j).1);rw [<- e] at h0;apply OY;intro hn;have:=WE hD (show 8388608*EC p z Ox<0 by omega)
  omega
 ·have hl:=Fa p a;have hk:0+1<(AV p a).length:=AA
  have hs:=hsep a ha 0 hk;have t0:=hT _ (h.Dh ha (k:=0) AA);have t1:=hT _ (h.Dh ha (k:=0+1) hk);have h0:=ajQ (List.range (2*T)) (fun j=>EC p z (fun a b=>xE D a b (KG T j)*Ef (KG T j) a b)) (fun j _=>(S j).1) (by
   refine ⟨(min (hY ((AV p a).getD 0 AY)) (hY ((AV p a).getD (0+1) AY))+T).toNat,FQ.2 AA,?_⟩;refine (S _).2 ⟨a,ha,0,hk,hza,?_⟩;unfold Ef KG;generalize hY ((AV p a).getD 0 AY)=A at *;generalize hY ((AV p a).getD (0+1) AY)=B at *;have hj:(((min A B+T).toNat:Nat):Int)=min A B+T:=AA
   rw [hj];by_cases c:A<B
   · rw [AZ AA,AX AA];omega
   · rw [AX AA,AZ AA];omega)
  rw [<- e] at h0;apply OY;intro hn;have:=acp (show 0<=D by omega) (show 8388608*EC p z Ox<=0 by omega)
  omega
end
set_option linter.unusedSectionVars false
def CX (X:List Int) (i:Int):Int:=(if i∈X then 1 else 0)-(if -i∈X then 1 else 0)
def F8 (p:Pl) (X:List Int):Int:=(X.map (PX p)).sum
theorem arY (P:List Pt):Ko Ox P=Q7 P:=by
 unfold Ko Q7;generalize P.length-1=n
 induction n with
 | zero=>rfl
 | succ n ih=>rw [XY,FH,O8,ih,Jt];simp
theorem aac (p:Pl) (z:Int->Int) (f:Pt->Pt->Int):EC p (fun i=>-z i) f=-EC p z f:=by
 unfold EC;rw [<- U2];exact IB _ _ _ fun a _=>by rw [SA]
theorem aeV {p:Pl} {z:Int->Int} {f:Pt->Pt->Int} (h0:∀ a∈p.AQ,z a.id=0\/∀ k,k+1<(AV p a).length->f ((AV p a).getD k AY) ((AV p a).getD (k+1) AY)=0):EC p z f=0:=by
 unfold EC Ko;refine XM _ _ fun a ha=>?_;rcases h0 a ha with e | e
 · rw [e,Jy]
 · rw [XM _ _ (fun k hk=>e k yI),KO]
theorem aeW {α:Type} (f:α->Int):∀ l:List α,l≠[]->∃ x∈l,∀ y∈l,f y<=f x
 | [],h=>absurd rfl h
 | [a],_=>⟨a,Ah,fun y hy=>by rw [Eb] at hy;subst hy;exact dY _⟩
 | a::b::l,_=>by
  obtain ⟨x,hx,hm⟩:=aeW f (b::l) Ah;by_cases c:f a<=f x
  ·refine ⟨x,LM _ hx,fun y hy=>?_⟩;rcases FI.1 hy with rfl | hy
   · exact c
   · exact hm y hy
  ·refine ⟨a,JC,fun y hy=>?_⟩;rcases FI.1 hy with rfl | hy
   · exact dY _
   · have:=hm y hy;omega
theorem arZ (p:Pl) (l:List Int) (k:Nat) (hk:k<=l.length):Nj p l k=((l.take k).map (PX p)).sum:=by
 induction k with
 | zero=>simp [Nj]
 | succ k ih =>
  rw [Nj,ih AA,Em (show k<l.length by omega),FH,O8,Gm,Di (show k<l.length by omega)];simp
section
variable {p:Pl} (h:Valid p)
include h
theorem Valid.ara (F:Int->Int):((Bj p).map F).sum=(p.AQ.map fun a=>F a.id+F (-a.id)).sum:=by
 unfold Bj;rw [FH,O8,ab4 ((List.reverse_perm _).map F),IW,IW,RQ]
 show (p.AQ.map fun a=>F (-a.id)).sum+(p.AQ.map fun a=>F a.id).sum=_
 omega
theorem Valid.Ic {X:List Int} (hX:X∈Cb p):X.Nodup/\(∀ d∈X,d∈Bj p):=by
 obtain ⟨x,hx,e,-⟩:=h.Pe hX;have hD:∀ x∈Bj p,FC p x∈Bj p:=fun x hx=>(h.Q5 hx).1;have hf:=Vl hD (fun x hx y hy=>h.XJ hx hy) hx;rw [e];exact ⟨hf.2.2.2.2.1,fun d hd=>uV hD hx hd⟩
theorem Valid.aeX {X:List Int} (hX:X∈Cb p) {d:Int} (hd:d∈Bj p):FC p d∈X↔d∈X:=by
 obtain ⟨x,hx,e,-⟩:=h.Pe hX;rw [e];exact aen (fun x hx=>(h.Q5 hx).1) (fun x hx y hy=>h.XJ hx hy) hx hd
theorem Valid.aeY {X:List Int} (hX:X∈Cb p) (F:Int->Int):(X.map F).sum=(p.AQ.map fun a=>(if a.id∈X then F a.id else 0)+(if -a.id∈X then F (-a.id) else 0)).sum:=by
 obtain ⟨h1,h2⟩:=h.Ic hX;rw [<- h.ara (fun d=>if d∈X then F d else 0)];have hp:((Bj p).filter (fun d=>decide (d∈X))).Perm X:=by
  refine (acj (h.uZ.filter _) h1).2 fun d=>?_;rw [QN,Dq];exact ⟨fun h=>h.2,fun h=>⟨h2 d h,h⟩⟩
 rw [<- ab4 (hp.map F)];generalize Bj p=D
 induction D with
 | nil=>rfl
 | cons d D ih =>
  rw [Ey,IC,eG];by_cases c:d∈X
  · rw [AZ (by simpa using c),AZ c,Ey,IC,ih]
  · rw [AX (by simpa using c),AX c,ih];omega
theorem Valid.arb {X:List Int} (hX:X∈Cb p):(X.map (FC p)).Perm X:=by
 obtain ⟨h1,h2⟩:=h.Ic hX;have hn:(X.map (FC p)).Nodup:=by
  rw [qg,IX];rw [qg] at h1;refine ah8 (fun {a b} ha hb hne e=>hne (h.XJ (h2 a ha) (h2 b hb) e)) h1
 refine (acj hn h1).2 fun y=>?_;rw [Ez];constructor
 ·rintro ⟨x,hx,rfl⟩;exact (h.aeX hX (h2 x hx)).2 hx
 ·intro hy;obtain ⟨x,hx,e,-⟩:=h.Pe hX;have hf:=Vl (fun x hx=>(h.Q5 hx).1) (fun x hx y hy=>h.XJ hx hy) hx;rw [e] at hy ⊢;unfold JZ at hy ⊢;obtain ⟨k,hk,rfl⟩:=U0.1 hy
  cases k with
  | zero =>
   refine ⟨pw (FC p) x (KZ (FC p) (Bj p) x-1),U0.2 ⟨_,AA,rfl⟩,?_⟩
   have:pw (FC p) x (KZ (FC p) (Bj p) x-1+1)=x:=by rw [aci hf.1];exact hf.2.2.1
   rw [pw] at this;exact this
  | succ k=>exact ⟨pw (FC p) x k,U0.2 ⟨k,AA,rfl⟩,rfl⟩
theorem Valid.WM {X:List Int} (hX:X∈Cb p):GR p (CX X):=by
 intro n _;obtain ⟨h1,h2⟩:=h.Ic hX;have e1:=h.aeY hX (fun d=>(if KR p (-d)=n.id then 1 else 0)-(if KR p d=n.id then 1 else 0));have e2:(X.map fun d=>((if KR p (-d)=n.id then 1 else 0)-(if KR p d=n.id then 1 else 0):Int)).sum=0:=by
  have e3:=ab4 ((h.arb hX).map fun d=>if KR p d=n.id then (1:Int) else 0);rw [IW] at e3;rw [IB _ _ (fun d=>(if KR p (FC p d)=n.id then (1:Int) else 0) + -(if KR p d=n.id then 1 else 0)) (fun d hd=>by rw [(h.Q5 (h2 d hd)).2];omega),RQ,U2];have e4:(X.map fun d=>if KR p (FC p d)=n.id then (1:Int) else 0).sum=(X.map ((fun d=>if KR p d=n.id then (1:Int) else 0) ∘ FC p)).sum:=rfl;omega
 rw [e2] at e1;refine Eq.trans ?_ e1.symm;refine IB _ _ _ fun a ha=>?_;simp only [OX];rw [h.zU ha,h.uX ha];unfold CX;generalize (if a.dst=n.id then (1:Int) else 0)=u;generalize (if a.fr=n.id then (1:Int) else 0)=v;by_cases c1:a.id∈X<;>by_cases c2:-a.id∈X<;>simp only [c1,c2,if_true,if_false]<;>omega
theorem Valid.ard {a:Ar} (ha:a∈p.AQ):PX p a.id=Q7 (AV p a)/\PX p (-a.id)=-Q7 (AV p a):=by
 have hid:=(h.IQ ha).1;unfold PX;rw [h.fK ha,h.ni ha];simp only;rw [AZ AA,AX AA];exact ⟨rfl,rfl⟩
theorem Valid.aeZ {X:List Int} (hX:X∈Cb p):F8 p X=EC p (CX X) Ox:=by
 unfold F8 EC;rw [h.aeY hX];refine IB _ _ _ fun a ha=>?_;obtain ⟨e1,e2⟩:=h.ard ha;rw [arY,e1,e2];unfold CX;by_cases c1:a.id∈X<;>by_cases c2:-a.id∈X<;>simp only [c1,c2,if_true,if_false]<;>omega
theorem Valid.aea {X:List Int} (hX:X∈Cb p) {d e:Int} (hd:d∈Bj p) (he:e∈Bj p) (hs:CW p p.AQ.length d=CW p p.AQ.length e) :
  Hz p (CX X) d-(if d∈X then 1 else 0)=Hz p (CX X) e-(if e∈X then 1 else 0):=by
 have hz:=h.WM hX;have hc:=h.as5 (fun d=>Hz p (CX X) d-(if d∈X then 1 else 0)) (fun d hd=>by
  show Hz p (CX X) (FC p d)-(if FC p d∈X then 1 else 0)=_
  rw [h.arx hz hd];by_cases c:d∈X
  · rw [AZ c,AZ ((h.aeX hX hd).2 c)]
  · rw [AX c,AX (fun e=>c ((h.aeX hX hd).1 e))]) p.AQ.length (Cj _) (fun j hj _ _=>by
  have:=h.XO hz (BO hj)
  unfold CX at this ⊢
  show Hz p _ p.AQ[j].id-_=Hz p _ (-p.AQ[j].id)-_
  omega)
 have h1:_=_:=hc d hd;have h2:_=_:=hc e he;rw [<- h1,<- h2,hs]
theorem Valid.arf {r:Int} (hr:r∈Bj p):∃ d∈Bj p,CW p p.AQ.length d=CW p p.AQ.length r /\
  ∀ z,GR p z->(∀ a∈p.AQ,z a.id≠0->CW p p.AQ.length a.id=CW p p.AQ.length r)->Hz p z d=0:=by
 obtain ⟨q,hq,hmax⟩:=aeW (fun q:Ar×Nat=>hY ((AV p q.1).getD q.2 AY)) (p.AQ.flatMap fun a=>if CW p p.AQ.length a.id=CW p p.AQ.length r then (List.range (AV p a).length).map fun k=>(a,k) else []) (by
  obtain ⟨a,ha,e⟩:=J9.1 hr;have hm:a.id∈Bj p:=J9.2 ⟨a,ha,.inl rfl⟩;have hs:CW p p.AQ.length a.id=CW p p.AQ.length r:=by
   rcases e with rfl | rfl
   · rfl
   · exact (h.Vq hm).symm
  have hl:=Fa p a;intro e;have:(a,0)∈(p.AQ.flatMap fun a=>if CW p p.AQ.length a.id=CW p p.AQ.length r then (List.range (AV p a).length).map fun k=>(a,k) else []) :=
   Ii.2 ⟨a,ha,by rw [AZ hs];exact Ez.2 ⟨0,FQ.2 AA,rfl⟩⟩
  rw [e] at this
  cases this)
 obtain ⟨a,ha,hq⟩:=Ii.1 hq;split at hq
 case isFalse => cases hq
 rename_i hsa;obtain ⟨k,hk,rfl⟩:=Ez.1 hq;have hk:=FQ.1 hk;simp only at hmax;have hl:=Fa p a;have top:∀ c∈p.AQ,CW p p.AQ.length c.id=CW p p.AQ.length r->∀ m,m<(AV p c).length->hY ((AV p c).getD m AY)<=hY ((AV p a).getD k AY):=by
  intro c hc hs m hm;exact hmax (c,m) (Ii.2 ⟨c,hc,by rw [AZ hs];exact Ez.2 ⟨m,FQ.2 hm,rfl⟩⟩)
 have loc:∀ z,(∀ a∈p.AQ,z a.id≠0->CW p p.AQ.length a.id=CW p p.AQ.length r)->∀ u,Kq p z ((AV p a).getD k AY) u=EC p z (Tj (fun x=>ind (Ea ((AV p a).getD k AY) x u)) ((AV p a).getD k AY)):=by
  intro z hz u;generalize (AV p a).getD k AY=v at *;have e:Kq p z v u=EC p z (fun a b=>NP a b v+Tj (fun x=>ind (Ea v x u)) v a b):=by
   unfold Kq;refine tq fun c _ m _=>?_;generalize (AV p c).getD m AY=x;generalize (AV p c).getD (m+1) AY=y;unfold PY Tj ind;by_cases h1:x=v<;>by_cases h2:y=v<;>simp only [h1,h2,true_and,false_and,if_true,if_false]<;>omega
  rw [e,fV p z (fun a b=>NP a b v),aeV (f:=fun a b=>NP a b v) (fun c hc=>?_),Int.zero_add];by_cases h0:z c.id=0
  · exact .inl h0
  ·right;intro m hm;have t1:=top c hc (hz c hc h0) m AA;have t2:=top c hc (hz c hc h0) (m+1) hm;unfold NP;rw [AX AA,AX AA]
 have hma:a.id∈Bj p:=J9.2 ⟨a,ha,.inl rfl⟩;have arh:-a.id∈Bj p:=J9.2 ⟨a,ha,.inr rfl⟩;have node:∀ n∈p.nodes,(AV p a).getD k AY=n.pt->(a.id∈DT p n.id\/-a.id∈DT p n.id)->∃ d∈Bj p,CW p p.AQ.length d=CW p p.AQ.length r /\
   ∀ z,GR p z->(∀ a∈p.AQ,z a.id≠0->CW p p.AQ.length a.id=CW p p.AQ.length r)->Hz p z d=0:=by
  intro n hn ev hor;rw [ev] at loc;have hpos:0<(DT p n.id).length:=by
   rcases hor with e | e<;>exact acg e
  have h0m:(DT p n.id)[0]∈DT p n.id:=BO hpos;have h0d:=(h.NI hn).subset h0m;obtain ⟨hdd,hst⟩:=h.fU h0d;refine ⟨-(DT p n.id)[0],Vm hdd,?_,fun z hz hzs=>?_⟩
  ·rw [h.Vq hdd];rcases hor with e | e
   · rw [h.aeL hn h0m e];exact hsa
   · rw [h.aeL hn h0m e,h.Vq hma];exact hsa
  ·have hr0:Kq p z n.pt (Dz p (DT p n.id)[0])=0:=by
    rw [loc z hzs,h.af8 z _ hn];refine XM _ _ fun x hx=>?_;obtain ⟨j,hj,rfl⟩:=EF.1 ((h.NI hn).symm.subset hx)
    have:ind (Ea n.pt (Dz p (DT p n.id)[j]) (Dz p (DT p n.id)[0]))=0:=by
     by_cases hj0:j=0
     · subst hj0;exact Xc _ _
     · exact AX (fZ (h.ak1 hn (i:=0) (j:=j) AA hj))
    rw [this,KO]
   have j:=h.oI hz hn h0d;have j2:=h.ak2 hz hdd;have e:Hz p z (DT p n.id)[0]=Oy p z n.pt (Dz p (DT p n.id)[0]):=by
    unfold Hz;rw [hst,h.sound.Py hn]
   omega
 by_cases h0:k=0
 ·subst h0;obtain ⟨n,hn,e1,e2⟩:=h.sound.XG ha;exact node n hn (by rw [Vj,e2]) (.inl ((h.NI hn).symm.subset (Qg.2 ⟨a,ha,.inl ⟨rfl,e1.symm⟩⟩)))
 by_cases h1:k=(AV p a).length-1
 ·obtain ⟨n,hn,e1,e2⟩:=h.sound.Xn ha;exact node n hn (by rw [h1,Vp,e2]) (.inr ((h.NI hn).symm.subset (Qg.2 ⟨a,ha,.inr ⟨rfl,e1.symm⟩⟩)))
 ·obtain ⟨m,rfl⟩:∃ m,k=m+1:=⟨k-1,AA⟩;have hin:m+2<(AV p a).length:=AA
  have at_:=fun z φ=>h.aay z φ ha (j:=m+1) AA hin;rcases h.aeI ha hin with c | c
  ·refine ⟨a.id,hma,hsa,fun z hz hzs=>?_⟩;rw [<- (h.uJ hz ha (m:=m) AA).2,loc z hzs,at_ z,show m+1-1=m by omega,show m+1+1=m+2 by omega,Xc];rw [show ind (Ea ((AV p a).getD (m+1) AY) ((AV p a).getD (m+2) AY) ((AV p a).getD m AY))=0 from AX (fZ c),yj,KO]
  ·refine ⟨-a.id,arh,by rw [h.Vq hma];exact hsa,fun z hz hzs=>?_⟩;rw [<- (h.uJ hz ha (m:=m+1) AA).1,loc z hzs,at_ z,show m+1-1=m by omega,show m+1+1=m+2 by omega,Xc];rw [show ind (Ea ((AV p a).getD (m+1) AY) ((AV p a).getD m AY) ((AV p a).getD (m+2) AY))=0 from AX (fZ c),yj,KO]
theorem Valid.WO {X:List Int} (hX:X∈Cb p) {d e:Int} (hd:d∈X) (he:e∈X):CW p p.AQ.length d=CW p p.AQ.length e:=by
 have h2:=(h.Ic hX).2;refine h.aeK (k:=0) (BX _) (Cj _) ?_
 show PZ (Cb p) d=PZ (Cb p) e
 rw [h.head_eq hX (h2 d hd) hd,h.head_eq hX (h2 e he) he]
theorem Valid.ari {X:List Int} (hX:X∈Cb p) {r d0:Int} (hr:r∈X) (hd:d0∈Bj p) (hs:CW p p.AQ.length d0=CW p p.AQ.length r)
  (h0:∀ z,GR p z->(∀ a∈p.AQ,z a.id≠0->CW p p.AQ.length a.id=CW p p.AQ.length r)->Hz p z d0=0):0<F8 p X↔d0∉X:=by
 have hz:=h.WM hX;have h2:=(h.Ic hX).2;have uK:∀ a∈p.AQ,CX X a.id≠0->CW p p.AQ.length a.id=CW p p.AQ.length r:=by
  intro a ha hne;have hma:a.id∈Bj p:=J9.2 ⟨a,ha,.inl rfl⟩;by_cases c1:a.id∈X
  · exact h.WO hX c1 hr
  ·by_cases c2:-a.id∈X
   · rw [<- h.Vq hma];exact h.WO hX c2 hr
   · exact absurd yH hne
 have hH:=h0 _ hz uK;have cl:∀ d∈Bj p,CW p p.AQ.length d=CW p p.AQ.length r->Hz p (CX X) d=(if d∈X then 1 else 0)-(if d0∈X then 1 else 0):=by
  intro d hd' hsd;have:=h.aea hX hd' hd (by rw [hsd,hs])
  omega
 have two:∀ a∈p.AQ,CX X a.id≠0->Hz p (CX X) a.id=(if a.id∈X then 1 else 0)-(if d0∈X then 1 else 0)/\Hz p (CX X) (-a.id)=(if -a.id∈X then 1 else 0)-(if d0∈X then 1 else 0):=by
  intro a ha hne;have hma:a.id∈Bj p:=J9.2 ⟨a,ha,.inl rfl⟩;exact ⟨cl _ hma (uK a ha hne),cl _ (Vm hma) (by rw [h.Vq hma];exact uK a ha hne)⟩
 rw [h.aeZ hX];by_cases c:d0∈X
 ·refine ⟨fun hp=>?_,fun hn=>absurd c hn⟩;exfalso;have hneg:GR p (fun i=>-CX X i):=fun n hn=>by
   have:=hz n hn
   show (p.AQ.map fun a=>-CX X a.id*((if a.dst=n.id then 1 else 0)-(if a.fr=n.id then 1 else 0))).sum=0
   refine (IB _ _ (fun a:Ar=>-(CX X a.id*((if a.dst=n.id then (1:Int) else 0)-(if a.fr=n.id then 1 else 0)))) (fun a _=>SA _ _)).trans ?_;rw [U2,this];rfl
  have hN:∀ d,Hz p (fun i=>-CX X i) d=-Hz p (CX X) d:=fun d=>aac _ _ _;have:=(h.aeU hneg (fun a ha hne=>by
   have hne':CX X a.id≠0:=fun e=>hne (by show -_=(0:Int);rw [e];rfl);obtain ⟨t1,t2⟩:=two a ha hne';rw [hN,hN,t1,t2,AZ c];unfold CX at hne';by_cases c1:a.id∈X<;>by_cases c2:-a.id∈X<;>simp only [c1,c2,if_true,if_false] at hne' ⊢ <;> omega)).1
  rw [aac] at this;omega
 ·refine ⟨fun _=>c,fun _=>?_⟩;refine (h.aeU hz (fun a ha hne=>by
   obtain ⟨t1,t2⟩:=two a ha hne;rw [t1,t2,AX c];unfold CX at hne;by_cases c1:a.id∈X<;>by_cases c2:-a.id∈X<;>simp only [c1,c2,if_true,if_false] at hne ⊢ <;> omega)).2 ?_
  apply OY;intro hno;have h1:=cl r (h2 r hr) rfl;rw [AZ hr,AX c] at h1
  have:Hz p (CX X) r=0:=aeV fun a ha=>.inl (OY fun e=>hno ⟨a,ha,e⟩)
  omega
end
