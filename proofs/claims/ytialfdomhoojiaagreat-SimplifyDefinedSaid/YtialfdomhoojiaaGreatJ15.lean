import Derived.Test.YtialfdomhoojiaaGreatJ14
import Derived.Test.YtialfdomhoojiaaGreatLaySortIn
set_option linter.unusedSimpArgs false
set_option linter.unusedVariables false
set_option maxRecDepth 100000
set_option maxHeartbeats 8000000
namespace Go.Proofs.YtialfdomhoojiaaGreat
open Go.RowKit
set_option linter.unusedSectionVars false
theorem QV {a b u:Pt} (hab:hY a<hY b) (h:kN a b u):hY a<=hY u/\hY u<=hY b:=by
 obtain ⟨h0,x1,x2,y1,y2⟩:=h;have k1:(hY u-hY a)*(b.y-a.y)=(u.y-a.y)*(hY b-hY a):=by unfold tw at h0;unfold hY;grind
 have k2:(hY u-hY a)*(b.x-a.x)=(u.x-a.x)*(hY b-hY a):=by unfold tw at h0;unfold hY;grind
 have hN:0<hY b-hY a:=by omega
 have hd:hY b-hY a=8388608*(b.y-a.y)+(b.x-a.x):=by unfold hY;omega
 have hu:hY u-hY a=8388608*(u.y-a.y)+(u.x-a.x):=by unfold hY;omega
 have hv:hY b-hY u=8388608*(b.y-u.y)+(b.x-u.x):=by unfold hY;omega
 generalize hY b-hY a=N at *;have s:∀ {x y:Int},0<x->0<y->0<x*y:=fun h1 h2=>Int.mul_pos h1 h2;have s2:∀ {x y:Int},x<0->0<y->x*y<0:=fun h1 h2=>Int.mul_neg_of_neg_of_pos h1 h2;have s3:∀ {x y:Int},0<x->y<0->x*y<0:=fun h1 h2=>Int.mul_neg_of_pos_of_neg h1 h2;have s4:∀ {x y:Int},x<0->y<0->0<x*y:=fun h1 h2=>Int.mul_pos_of_neg_of_neg h1 h2;have nn:∀ {x y:Int},0<=x->0<=y->0<=x*y:=fun h1 h2=>Int.mul_nonneg h1 h2;have np:∀ {x y:Int},x<=0->0<=y->x*y<=0:=fun h1 h2=>Int.mul_nonpos_of_nonpos_of_nonneg h1 h2;have k1':(hY b-hY u)*(b.y-a.y)=(b.y-u.y)*N:=by
  have:(hY b-hY u)+(hY u-hY a)=N:=by omega
  have e:(hY b-hY u)*(b.y-a.y)=N*(b.y-a.y)-(hY u-hY a)*(b.y-a.y):=by rw [<- this];grind
  rw [e,k1];grind
 have k2':(hY b-hY u)*(b.x-a.x)=(b.x-u.x)*N:=by
  have:(hY b-hY u)+(hY u-hY a)=N:=by omega
  have e:(hY b-hY u)*(b.x-a.x)=N*(b.x-a.x)-(hY u-hY a)*(b.x-a.x):=by rw [<- this];grind
  rw [e,k2];grind
 have key:∀ {m d q:Int},m*d=q*N->(0<d->0<=q)->(d<0->q<=0)->d≠0->0<=m:=by
  intro m d q e h1 h2 hd0;apply Classical.byContradiction;intro hm;rcases Int.lt_or_gt_of_ne hd0 with g | g
  ·have:=s4 (show m<0 by omega) g
   have:=np (h2 g) (show 0<=N by omega)
   omega
  ·have:=s2 (show m<0 by omega) g
   have:=nn (h1 g) (show 0<=N by omega)
   omega
 by_cases hy:b.y-a.y=0
 ·have hx:b.x-a.x≠0:=by omega
  have m1:=key k2 Pe Pe hx;have m2:=key k2' Pe Pe hx;omega
 ·have m1:=key k1 Pe Pe hy;have m2:=key k1' Pe Pe hy;omega
theorem af9 {u v a b s:Pt} (hne:u≠v) (ha:tw u v a=0) (hb:tw u v b=0) (hs:tw u v s=0):tw a b s=0:=by
 have h0:=Pt.UM hne;unfold tw at *;exact parallel h0 (by grind) (by grind)
theorem aga {a b:Pt} (na:aZ a=true) (nb:aZ b=true) (hne:a≠b):∃ s t,((a=s/\b=t)\/(a=t/\b=s))/\hY s<hY t/\aZ s=true/\aZ t=true:=by
 rcases Int.lt_trichotomy (hY a) (hY b) with c | c | c
 · exact ⟨a,b,.inl ⟨rfl,rfl⟩,c,na,nb⟩
 · exact absurd (oU na nb c) hne
 · exact ⟨b,a,.inr ⟨rfl,rfl⟩,c,nb,na⟩
theorem QW {a b v:Pt} (h:kN a b v):kN b a v:=by
 obtain ⟨h0,h1⟩:=h;refine ⟨?_,by rw [Int.min_comm,Int.max_comm b.x,Int.min_comm b.y,Int.max_comm b.y];exact h1⟩
 have:tw b a v=-tw a b v:=by unfold tw;grind
 omega
theorem agb {a b c d u v:Pt} (na:aZ a=true) (nb:aZ b=true) (nc:aZ c=true) (nd:aZ d=true) (nu:aZ u=true) (nv:aZ v=true) (hab:a≠b) (hcd:c≠d) (huv:u≠v)
  (h1:kN a b u) (h2:kN a b v) (h3:kN c d u) (h4:kN c d v):pG a b c d=2:=by
 obtain ⟨s,t,e1,l1,-,-⟩:=aga na nb hab;obtain ⟨x,y,e2,l2,-,-⟩:=aga nc nd hcd;have hh:hY u≠hY v:=fun e=>huv (oU nu nv e);have h1':kN s t u:=by rcases e1 with ⟨rfl,rfl⟩ | ⟨rfl,rfl⟩;exact h1;exact QW h1
 have h2':kN s t v:=by rcases e1 with ⟨rfl,rfl⟩ | ⟨rfl,rfl⟩;exact h2;exact QW h2
 have h3':kN x y u:=by rcases e2 with ⟨rfl,rfl⟩ | ⟨rfl,rfl⟩;exact h3;exact QW h3
 have h4':kN x y v:=by rcases e2 with ⟨rfl,rfl⟩ | ⟨rfl,rfl⟩;exact h4;exact QW h4
 have q1:=QV l1 h1';have q2:=QV l1 h2';have q3:=QV l2 h3';have q4:=QV l2 h4';have hst:s≠t:=fun e=>by rw [e] at l1;omega
 have hxy:x≠y:=fun e=>by rw [e] at l2;omega
 obtain ⟨p1,p2⟩:=Oc hst h1'.1 h2'.1;obtain ⟨p3,p4⟩:=Oc hxy h3'.1 h4'.1;exact aaB e1 e2 l1 l2 (af9 huv p1 p2 p3) (af9 huv p1 p2 p4) Pe Pe
theorem anE {a b c d v:Pt} (na:aZ a=true) (nb:aZ b=true) (nc:aZ c=true) (nd:aZ d=true) (nv:aZ v=true) (hab:a≠b) (hcd:c≠d) (h1:kN a b v) (h2:kN c d v):pG a b c d≠0:=by
 intro h0;have lin:∀ {a b c d:Pt},aZ c=true->aZ d=true->c≠d->tw a b v=0->kN c d v->(tw a b c<=0/\0<=tw a b d)\/(0<=tw a b c/\tw a b d<=0):=by
  intro a b c d nc nd hcd e ho;have go:∀ {c d:Pt},hY c<hY d->kN c d v->(tw a b c<=0/\0<=tw a b d)\/(0<=tw a b c/\tw a b d<=0):=by
   intro c d hlt ho;have hb:=QV hlt ho;have k:tw a b c*(hY d-hY v)+tw a b d*(hY v-hY c)=0:=by
    have:=ho.1
    have k0:tw a b c*(hY d-hY v)+tw a b d*(hY v-hY c)=tw a b v*(hY d-hY c)-(hY b-hY a)*tw c d v:=by unfold tw hY;grind
    rw [k0,e,this];simp
   have p1:∀ {x y:Int},0<x->0<=y->0<=x*y:=fun h1 h2=>Int.mul_nonneg Pe h2;have p2:∀ {x y:Int},x<0->0<=y->x*y<=0:=fun h1 h2=>Int.mul_nonpos_of_nonpos_of_nonneg Pe h2;have p3:∀ {x y:Int},0<x->0<y->0<x*y:=fun h1 h2=>Int.mul_pos h1 h2;have p4:∀ {x y:Int},x<0->0<y->x*y<0:=fun h1 h2=>Int.mul_neg_of_neg_of_pos h1 h2;generalize tw a b c=u1 at *;generalize tw a b d=u2 at *;have hA:0<=hY d-hY v:=by omega
   have hB:0<=hY v-hY c:=by omega
   have hAB:0<hY d-hY v\/0<hY v-hY c:=by omega
   generalize hY d-hY v=A at *;generalize hY v-hY c=B at *;clear hb ho e hlt;rcases Int.lt_trichotomy u1 0 with g1 | g1 | g1
   ·rcases Int.lt_trichotomy u2 0 with g2 | g2 | g2
    ·exfalso;have:=p2 g1 hA;have:=p2 g2 hB
     rcases hAB with q | q
     · have:=p4 g1 q;omega
     · have:=p4 g2 q;omega
    · omega
    · omega
   · omega
   ·rcases Int.lt_trichotomy u2 0 with g2 | g2 | g2
    · omega
    · omega
    ·exfalso;have:=p1 g1 hA;have:=p1 g2 hB
     rcases hAB with q | q
     · have:=p3 g1 q;omega
     · have:=p3 g2 q;omega
  rcases Int.lt_trichotomy (hY c) (hY d) with g | g | g
  · exact go g ho
  · exact absurd (oU nc nd g) hcd
  · have:=go g (QW ho);omega
 have l1:=lin (a:=a) (b:=b) nc nd hcd h1.1 h2;have l2:=lin (a:=c) (b:=d) na nb hab h2.1 h1;have e:=QE a b c d;by_cases hp:tw a b d-tw a b c=0
 ·have z1:tw a b c=0/\tw a b d=0:=by omega
  obtain ⟨z3,z4⟩:=Oc hab z1.1 z1.2;unfold pG at h0;rw [if_neg (fun e=>hab e.1),if_pos (by rw [aaq];omega),if_pos ⟨z1.1,z1.2,z3,z4⟩,CX] at h0;have b1:=(Zy a b v hab h1.1).1 ⟨h1.2.1,h1.2.2.1,h1.2.2.2.1,h1.2.2.2.2⟩;have b2:=(Zy c d v hcd h2.1).1 ⟨h2.2.1,h2.2.2.1,h2.2.2.2.1,h2.2.2.2.2⟩;have g1:bF v (hi (lo a b) (lo c d))=false:=aeQ b1.1 b2.1;have g2:bF (lo (hi a b) (hi c d)) v=false:=aeR b1.2 b2.2;split at h0
  · cases h0
  ·rename_i hne;split at h0
   · cases h0
   ·rename_i hb;rw [Bool.not_eq_true] at hb;apply hne;rw [<- Bool.not_eq_true,oP] at g1 g2 hb;rw [Pt.ext_iff'];omega
 ·have NM:=afn hab h0 hp;omega
theorem anF {D:Int} (hD:0<D) {a b v:Pt} (na:aZ a=true) (nb:aZ b=true) (nv:aZ v=true) (hne:a≠b) (hd:hY b-hY a∣D) (hav:a≠v) (hbv:b≠v) (hoff:¬ kN a b v) :
  (if 2*D*v.x<xE D a b (2*hY v) then gJ (2*hY v) a b else 0)=pR a b v:=by
 have key:∀ {a b:Pt},hY a<hY b->hY b-hY a∣D->hY a≠hY v->hY b≠hY v->(if 2*D*v.x<xE D a b (2*hY v) then gJ (2*hY v) a b else 0)=pR a b v:=by
  intro a b hab hd ha hb;have hx:=afU hD (v:=v) hab hd;simp only [hx];unfold pR gJ;rw [if_neg (show ¬ (hY b<hY v/\hY v<hY a/\0<tw b a v) by omega)];by_cases c:0<tw a b v
  ·rw [if_pos c];by_cases c1:hY a<hY v
   ·by_cases c2:hY v<hY b
    · rw [if_pos Pe,if_neg Pe,if_pos ⟨c1,c2,c⟩];rfl
    · rw [if_neg Pe,if_neg Pe,if_neg (fun e=>c2 e.2.1)];rfl
   · rw [if_pos Pe,if_pos Pe,if_neg (fun e=>c1 e.1)];rfl
  · rw [if_neg c,if_neg (fun e=>c e.2.2)]
 have ha:hY a≠hY v:=fun e=>hav (oU na nv e);have hb:hY b≠hY v:=fun e=>hbv (oU nb nv e);rcases Int.lt_trichotomy (hY a) (hY b) with c | c | c
 · exact key c hd ha hb
 · exact absurd (oU na nb c) hne
 ·have:=key c (by rw [show hY a-hY b=-(hY b-hY a) by omega];exact Int.neg_dvd.2 hd) hb ha
  rw [Jq,aap] at this;have e2:gJ (2*hY v) b a=-gJ (2*hY v) a b:=by unfold gJ;omega
  rw [e2] at this;split at this<;>rename_i g<;>first | (rw [if_pos g];omega) | (rw [if_neg g];omega)
section
variable {p:Pl} (h:Valid p)
include h
theorem Valid.anG {z:Int->Int} (hz:jc p z) {v:Pt} (nv:aZ v=true) (hoff:BJ p z v):yu p z v=fB p z (fun a b=>pR a b v):=by
 obtain ⟨D,hD,hd⟩:=h.Vx;rw [h.afV hz hD hd nv hoff];refine (Oe p z D (2*hY v) (fun x s=>if 2*D*v.x<x then s else 0) (fun x c s=>by split<;>simp)).trans ?_;exact Vs fun a ha hza k hk=>anF hD (h.dS ha (k:=k) Pe) (h.dS ha hk) nv (h.distinct ha hk).1 (hd a ha k hk) (h.Jr hoff ha hza (k:=k) Pe) (h.Jr hoff ha hza hk) (hoff a ha hza k hk)
theorem Valid.agc {z:Int->Int} (hz:jc p z) {v:Pt} (nv:aZ v=true) (hoff:BJ p z v) (u:Pt):nP p z v u=yu p z v:=by
 rw [h.anG hz nv hoff];unfold nP;refine Vs fun a ha hza k hk=>?_;have e1:=h.Jr hoff ha hza (k:=k) Pe;have e2:=h.Jr hoff ha hza hk;unfold tK;rw [if_neg (fun e=>e1 e.1),if_neg (fun e=>e2 e.1)];omega
theorem Valid.aaX {z:Int->Int} (hz:jc p z) {a:Ar} (ha:a∈p.aj) {k:Nat} (hk:k<(au p a).length) (hoff:BJ p z ((au p a).getD k aA)) :
  yu p z ((au p a).getD k aA)=Hz p z a.id/\Hz p z (-a.id)=Hz p z a.id:=by
 have hl:=ig p a;have nv:=h.dS ha hk;have hp:=h.En hz ha;have h0:z a.id=0:=Classical.byContradiction fun hne=>h.Jr hoff ha hne hk rfl;rw [h0] at hp;refine ⟨?_,by omega⟩;by_cases h1:k+1<(au p a).length
 ·have:=(h.QO hz ha h1).1
  rw [h.agc hz nv hoff] at this;omega
 ·obtain ⟨m,rfl⟩:∃ m,k=m+1:=⟨k-1,by omega⟩;have:=(h.QO hz ha (m:=m) hk).2
  rw [h.agc hz nv hoff] at this;omega
theorem Valid.anH {a c:Ar} (ha:a∈p.aj) (hc:c∈p.aj) (hne:a≠c) {k m:Nat} (hk:k+1<(au p a).length) (hm:m+1<(au p c).length) {v:Pt} (nv:aZ v=true)
  (h1:kN ((au p a).getD k aA) ((au p a).getD (k+1) aA) v) (h2:kN ((au p c).getD m aA) ((au p c).getD (m+1) aA) v):∃ n∈p.nodes,n.pt=v/\(a.fr=n.id\/a.dst=n.id)/\(c.fr=n.id\/c.dst=n.id):=by
 have go:∀ {a c:Ar} {k m:Nat},a∈p.aj->c∈p.aj->a≠c->k+1<(au p a).length->m+1<(au p c).length->kN ((au p a).getD k aA) ((au p a).getD (k+1) aA) v->kN ((au p c).getD m aA) ((au p c).getD (m+1) aA) v ->
   sZ p (eH p a k) (eH p c m)=true->∃ n∈p.nodes,n.pt=v/\(a.fr=n.id\/a.dst=n.id)/\(c.fr=n.id\/c.dst=n.id):=by
  intro a c k m ha hc hne hk hm h1 h2 hj;have n1:=h.dS ha (k:=k) Pe;have n2:=h.dS ha hk;have n3:=h.dS hc (k:=m) Pe;have n4:=h.dS hc hm;have d1:=(h.distinct ha hk).1;have d2:=(h.distinct hc hm).1;have hm0:=anE n1 n2 n3 n4 nv d1 d2 h1 h2;unfold sZ at hj;split at hj
  ·obtain ⟨x,hx,hat⟩:=awg.1 hj;unfold ru eH at hat;simp only [avR] at hat;obtain ⟨⟨⟨e1,e2⟩,o1⟩,o2⟩:=hat;have nx:=h.Qo hx;rw [<- UK] at o1 o2;have o1:=(Og n1 n2 nx).1 o1;have o2:=(Og n3 n4 nx).1 o2;have ends:∀ {b:Ar},CZ b x.id=true->b.fr=x.id\/b.dst=x.id:=fun he=>by
    unfold CZ at he;simpa using he
   refine ⟨x,hx,?_,ends e1,ends e2⟩;apply Classical.byContradiction;intro hxv;have r1:=agb n1 n2 n3 n4 nx nv d1 d2 hxv o1 h1 o2 h2;have r2:=agb n3 n4 n1 n2 nx nv d2 d1 hxv o2 h2 o1 h1;exact h.afO ha hc hk hm (fun e=>hne e.1) ⟨r1,r2⟩
  ·rw [beq_iff_eq] at hj;unfold iQ eH at hj;rw [if_pos (FK n1 n2 n3 n4)] at hj;exact absurd hj hm0
 have hpw:=h.wH.2.2;obtain ⟨i,hi,rfl⟩:=avI.1 ha;obtain ⟨j,hj,rfl⟩:=avI.1 hc;rw [avJ] at hpw;rcases Nat.lt_trichotomy i j with hij | hij | hij
 · exact go ha hc hne hk hm h1 h2 (hpw i j hi hj hij k hk m hm)
 · subst hij;exact absurd rfl hne
 ·obtain ⟨n,h1,h2,h3,h4⟩:=go hc ha (fun e=>hne e.symm) hm hk h2 h1 (hpw j i hj hi hij m hm k hk);exact ⟨n,h1,h2,h4,h3⟩
theorem Valid.agd {X:List Int} (hX:X∈cO p) {r:Int} (hr:r∈X) {a:Ar} (ha:a∈p.aj) (hs:bM p p.aj.length a.id≠bM p p.aj.length r) {k:Nat} (hk:k<(au p a).length) :
  ∀ q∈nJ p X,dQ q.1 q.2 ((au p a).getD k aA)=false:=by
 intro q hq;obtain ⟨c,hc,hcm,m,hm,rfl⟩:=h.af7 (h.lV hX).2 hq;rw [<- Bool.not_eq_true];intro ho;have hl:=ig p a;have hcs:bM p p.aj.length c.id=bM p p.aj.length r:=by
  have hmc:c.id∈bf p:=kZ.2 ⟨c,hc,.inl rfl⟩;rcases hcm with g | g
  · exact h.Es hX g hr
  · rw [<- h.Du hmc];exact h.Es hX g hr
 have hne:a≠c:=by rintro rfl;exact hs hcs
 obtain ⟨j,hj,hon⟩:∃ j,j+1<(au p a).length/\kN ((au p a).getD j aA) ((au p a).getD (j+1) aA) ((au p a).getD k aA):=by
  by_cases h1:k+1<(au p a).length
  · exact ⟨k,h1,FW _ _,by omega⟩
  ·obtain ⟨j,rfl⟩:∃ j,k=j+1:=⟨k-1,by omega⟩;exact ⟨j,hk,FX _ _,by omega⟩
 obtain ⟨n,hn,-,ea,ec⟩:=h.anH ha hc hne hj hm (h.dS ha hk) hon ((Og (h.dS hc Pe) (h.dS hc hm) (h.dS ha hk)).1 ho);have agf:∀ {a:Ar},a∈p.aj->(a.fr=n.id\/a.dst=n.id)->∃ d∈dJ p n.id,bM p p.aj.length d=bM p p.aj.length a.id:=by
  intro a ha hor;have hma:a.id∈bf p:=kZ.2 ⟨a,ha,.inl rfl⟩;rcases hor with e | e
  · exact ⟨a.id,(h.pK hn).symm.subset (wJ.2 ⟨a,ha,.inl ⟨rfl,e⟩⟩),rfl⟩
  · exact ⟨-a.id,(h.pK hn).symm.subset (wJ.2 ⟨a,ha,.inr ⟨rfl,e⟩⟩),h.Du hma⟩
 obtain ⟨d1,m1,q1⟩:=agf ha ea;obtain ⟨d2,m2,q2⟩:=agf hc ec;exact hs (by rw [<- q1,h.aaz hn m1 m2,q2,hcs])
end
set_option linter.unusedSectionVars false
def iE (p:Pl):List (List Int):=(cO p).filter (fun X=>decide (0<iD p X))
def rO (p:Pl):List (List Int):=(cO p).filter (fun X=>!decide (0<iD p X))
def uQ (p:Pl) (v:Pt):Option (List Int):=lX (fun X=>encS p X v) (iD p) (iE p)
theorem Dv {p:Pl} {X:List Int}:X∈iE p↔X∈cO p/\0<iD p X:=by unfold iE;rw [av7,avQ]
theorem aaY {p:Pl} {X:List Int}:X∈rO p↔X∈cO p/\¬ 0<iD p X:=by unfold rO;rw [av7];simp
section
variable {p:Pl} (h:Valid p)
include h
theorem Valid.anI {l:List (List Int)} (hl:(iE p).Perm l) {v:Pt} (nv:aZ v=true):lX (fun X=>encS p X v) (iD p) l=uQ p v:=by
 refine (anD _ _ hl fun X hX Y hY eX eY e=>?_).symm;rw [Dv] at hX hY;exact h.anC hX.1 hY.1 hX.2 hY.2 nv eX eY e
theorem Valid.agh {X:List Int} (hX:X∈iE p) {r:Int} (hr:r∈X) {a:Ar} (ha:a∈p.aj) (hs:bM p p.aj.length a.id=bM p p.aj.length r) {k:Nat} (hk:k<(au p a).length):encS p X ((au p a).getD k aA)=false:=by
 rw [Dv] at hX;have nv:=h.dS ha hk;have hma:a.id∈bf p:=kZ.2 ⟨a,ha,.inl rfl⟩;have hl:=ig p a;rw [<- Bool.not_eq_true];intro he;obtain ⟨g1,g2⟩:=(h.QT hX.1 hX.2 nv).1 he;have hoff:=h.QU nv g1;obtain ⟨w1,w2⟩:=h.aaX (h.Ep hX.1) ha hk hoff;rw [h.F8 hX.1 hX.2 hr hma hs] at w1;rw [w1] at g2;have hin:a.id∈X:=Classical.byContradiction fun c=>by rw [if_neg c] at g2;cases g2
 obtain ⟨j,hj,hon⟩:∃ j,j+1<(au p a).length/\kN ((au p a).getD j aA) ((au p a).getD (j+1) aA) ((au p a).getD k aA):=by
  by_cases h1:k+1<(au p a).length
  · exact ⟨k,h1,FW _ _,by omega⟩
  ·obtain ⟨j,rfl⟩:∃ j,k=j+1:=⟨k-1,by omega⟩;exact ⟨j,hk,FX _ _,by omega⟩
 have:=g1 _ (h.aaS ha (.inl hin) hj)
 rw [(Og (h.dS ha Pe) (h.dS ha hj) nv).2 hon] at this
 cases this
theorem Valid.anJ {X:List Int} (hX:X∈iE p) {a b:Ar} (ha:a∈p.aj) (hb:b∈p.aj) (hs:bM p p.aj.length a.id=bM p p.aj.length b.id) {k m:Nat} (hk:k<(au p a).length) (hm:m<(au p b).length) :
  encS p X ((au p a).getD k aA)=encS p X ((au p b).getD m aA):=by
 have hX':=Dv.1 hX;obtain ⟨r,-,-,-,hr⟩:=h.uN hX'.1;by_cases hc:bM p p.aj.length a.id=bM p p.aj.length r
 · rw [h.agh hX hr ha hc hk,h.agh hX hr hb (by rw [<- hs];exact hc) hm]
 ·have hma:a.id∈bf p:=kZ.2 ⟨a,ha,.inl rfl⟩;have hmb:b.id∈bf p:=kZ.2 ⟨b,hb,.inl rfl⟩;have o1:=h.agd hX'.1 hr ha hc hk;have o2:=h.agd hX'.1 hr hb (by rw [<- hs];exact hc) hm;have w1:=(h.aaX (h.Ep hX'.1) ha hk (h.QU (h.dS ha hk) o1)).1;have w2:=(h.aaX (h.Ep hX'.1) hb hm (h.QU (h.dS hb hm) o2)).1;have e:=(h.aaQ hX'.1 hX'.2 hr hma hc).2 _ hmb hs.symm;rw [Bool.eq_iff_iff,h.QT hX'.1 hX'.2 (h.dS ha hk),h.QT hX'.1 hX'.2 (h.dS hb hm),w1,w2,e];exact ⟨fun g=>⟨o2,g.2⟩,fun g=>⟨o1,g.2⟩⟩
theorem Valid.anK {a b:Ar} (ha:a∈p.aj) (hb:b∈p.aj) (hs:bM p p.aj.length a.id=bM p p.aj.length b.id) {k m:Nat} (hk:k<(au p a).length) (hm:m<(au p b).length) :
  uQ p ((au p a).getD k aA)=uQ p ((au p b).getD m aA):=by
 unfold uQ lX;have:∀ (l:List (List Int)) (o:Option (List Int)),(∀ X∈l,X∈iE p)->l.foldl (wL (fun X=>encS p X ((au p a).getD k aA)) (iD p)) o=l.foldl (wL (fun X=>encS p X ((au p b).getD m aA)) (iD p)) o:=by
  intro l
  induction l with
  | nil=>intro o _;rfl
  | cons X l ih =>
   intro o hl;rw [List.foldl_cons,List.foldl_cons,ih _ (fun Y hY=>hl Y (List.mem_cons_of_mem _ hY))];congr 1;have e:=h.anJ (hl X av3) ha hb hs hk hm;simp only [wL,e]
 exact this _ _ fun X hX=>hX
end
def KX (p:Pl) (c:List Int):Pt:=(tX p (c.headD 0)).getD 0 aA
def aaZ (p:Pl) (b:Option (List Int)):List (List Int):=(rO p).filter (fun c=>decide (uQ p (KX p c)=b))
def QX (p:Pl) (b:Option (List Int)):Int:=match b with
 | none=>0
 | some X=>iw p (X.headD 0)
def Oh (p:Pl) (b:Option (List Int)):List (List Int):=b.getD []::aaZ p b
structure agi (p:Pl):Prop where
 some:∀ X∈iE p,iw p (X.headD 0)≠0
 differ:((iE p).map (fun X=>iw p (X.headD 0))).Nodup
 sides:∀ b,(b=none\/∃ X∈iE p,b=Option.some X)->∀ c∈Oh p b,∀ d∈c,iw p d=QX p b
 all:(iE p).length=p.faces.length
theorem agj {w:World} {gm n:Nat} {f:Int->SV} (h:pJ w gm n f) {g:Nat} {t:TypeId} {cs:Array Value} (hg:ah w g t cs):g≠gm:=by
 rintro rfl;obtain ⟨D,h1,-⟩:=h;obtain ⟨es,clock,h2,-⟩:=h1;unfold ah at hg;rw [hg] at h2
 cases h2
theorem agk {w:World} {gm n:Nat} {f:Int->SV} (h:pJ w gm n f) {base:Nat} {e:TypeId} {size:Nat} {α:Type} {fe:α->List Value} {v:Value} {l:List α} (ho:Own w base e size fe v l):v.ownBlock≠some gm:=by
 rcases ho.2 with ⟨rfl,_⟩ | ⟨g,cap,cur,rfl,_,hh,_⟩
 · simp [Value.ownBlock]
 ·intro e';exact agj h (cs:=cur) (g:=g) hh avt
theorem anL {w:World} {base:Nat} {e:TypeId} {size:Nat} {α:Type} {fe:α->List Value} {x:SV} {l:List α} (ho:Own w base e size fe (bg x) l):x.ok:=by
 obtain ⟨a,n,c⟩:=x;rcases ho.2 with ⟨h,_⟩ | ⟨g,cap,cur,h,_⟩
 · unfold bg at h;injection h with h1;exact .inl h1
 · unfold bg at h;injection h with h1;exact .inr ⟨g,0,h1⟩
structure Gg (w:World) (b:Nat) (p:Pl) (f:Int->SV):Prop where
 mp:∃ n,pJ w b n f
 rd:∀ a∈p.aj,dM w (bg (f a.id)) (au p a)
theorem Gg.keep {w w':World} {b:Nat} {p:Pl} {f:Int->SV} (h:Gg w b p f) (hb:Below w.heap.size w w'):Gg w' b p f:=by
 obtain ⟨⟨n,h1⟩,h2⟩:=h;exact ⟨⟨n,h1.keep hb⟩,fun a ha=>(h2 a ha).mono hb⟩
def anM (w:World) (p:Pl) (e:Ending) (w':World):Prop:=∃ b f,e=.returned (.map (some b))/\Below w.heap.size w w'/\w.heap.size<=b/\Gg w' b p f
theorem anN (v:Value) (p:Pl) (w:World) (h:bQ w v p) (hv:Valid p):Calls Tryz.prog 59 #[v] w (anM w p):=by
 have kM:=avE (fun id W (hW:Below w.heap.size w W)=>Nz v p id W (h.mono hW) hv.short);obtain ⟨_,_,_,al,rfl,hpa,⟨An,cn,rfl,-⟩,⟨⟨Aa,ca,rfl,hm1,hm2,gV⟩,QY⟩,⟨Af,cf,rfl,-⟩⟩:=h;unfold maxLen at hm2;have jr:=avE gV;have KY:=avE QY;have hall:al.length<=256:=by
  have hl:=hv.lim;unfold nC at hl;simp only [Bool.or_eq_false_iff,avX] at hl;have h2:=hl.2;rw [hpa,avM] at h2;omega
 have oI:=avE (show ∀ k (hk:k<al.length),al[k].1∈p.aj from fun k hk=>by rw [hpa];exact awd (avF hk));have qL:=avE (show ∀ a∈p.aj,∃ k,∃ hk:k<al.length,al[k].1=a from fun a ha=>by
  rw [hpa] at ha;obtain ⟨x,hx,rfl⟩:=av6.1 ha;obtain ⟨k,hk,rfl⟩:=avI.1 hx;exact ⟨k,hk,rfl⟩)
 have rP:=avE (fun k (hk:k<al.length)=>hv.sound.path (oI.out k hk));have HIb:=avE (fun k (hk:k<al.length)=>hv.kC (oI.out k hk));have Qz:=avE (show ∀ j k (hj:j<al.length) (hk:k<al.length),j<k->al[j].1.id≠al[k].1.id from fun j k hj hk hjk e=>by
  have h1:=hv.sound.aj;rw [hpa,awc,List.pairwise_map,avJ] at h1;have:=h1 j k hj hk hjk
  simp only [Function.comp] at this;omega)
 generalize p.nodes.length=nn at *;generalize p.faces.length=nf at *;clear hpa gV QY hv;have hmm:=@run_makeMap Tryz.prog;go_enter Tryz.func59,Tryz.ntmps59;go_upto_region 2 with fail;obtain ⟨gm,hgm⟩:∃ gm,gm=w.heap.size+1:=⟨_,rfl⟩;obtain ⟨W1,hW⟩:∃ W:World,W=(w.alloc (.cells #[.slice An nn cn,.slice Aa al.length ca,.slice Af nf cf] 26)).alloc (.map #[] 0):=⟨_,rfl⟩;have X1:ah W1 w.heap.size 26 #[.slice An nn cn,.slice Aa al.length ca,.slice Af nf cf]:=by rw [hW];exact (ah.made rfl _ _).alloc _
 have mZ:=avE (show pJ W1 gm 0 (fun _=>sv0) by
  have:=pJ.made (w.alloc (.cells #[.slice An nn cn,.slice Aa al.length ca,.slice Af nf cf] 26))
  rw [hW,hgm];simpa using this)
 have HB1:=avE (show Below w.heap.size w W1 by rw [hW];exact bA (bA (bR w) _) _);have hgl:w.heap.size<gm:=by omega
 rw [<- hW,<- hgm];clear hW hgm hmm;have gq:=avE X1;obtain ⟨aS,aT,aU,aW,-,-,-⟩:=X1.aF;go_upto_block 0 with fail;clear X1 aS aT aU aW;go_wp2_with fail;go_loopw [12] (fun i wr=>∃ (k:Nat) (f:Int->SV),k<=al.length/\i=.int .i64 k/\pJ wr gm k f/\(∀ j (hj:j<al.length),j<k->Own wr w.heap.size 39 2 dU (bg (f al[j].1.id)) (au p al[j].1))/\ah wr w.heap.size 26 #[.slice An nn cn,.slice Aa al.length ca,.slice Af nf cf]/\Below w.heap.size w wr) (fun i _=>al.length-(intOf i).toNat)
 case atStart => exact ⟨0,fun _=>sv0,avK _,rfl,mZ.out,(fun j _ h=>by omega),gq.out,HB1.out⟩
 case round =>
  obtain ⟨k,f,hk,rfl,mp,own,X1,hb⟩:=hrel;obtain ⟨wo,rfl⟩:∃ wo:World,wo=wr:=⟨_,rfl⟩;have HM:=avE mp;have HO:=avE own;have HX:=avE X1;have Hb:=avE hb;have hzo:=hb.size;have hgo:=mp.lt;clear mp own hb gq mZ HB1;by_cases hlt:k<al.length
  ·obtain ⟨b,o,rfl,hlb,c0,c1,c2,c3,c4,c5⟩:=(jr.out.mono Hb.out).ar hlt;obtain ⟨Av,cv,hvv,-⟩:=KY.out k hlt;rw [hvv] at c3;have hpo:=rP.out k hlt;have hib:=HIb.out k hlt;have hne:=fun j hj hjk=>Qz.out j k hj hlt hjk;have hpt:=kM.out al[k].1.id;rw [hpo] at hpt;have HP:=avE (show ∀ (f:Int->SV) W,(∀ j (hj:j<al.length),j<k->Own W w.heap.size 39 2 dU (bg (f al[j].1.id)) (au p al[j].1))->Own W w.heap.size 39 2 dU (bg (f al[k].1.id)) (au p al[k].1)->∀ j (hj:j<al.length),j<k+1->Own W w.heap.size 39 2 dU (bg (f al[j].1.id)) (au p al[j].1) from fun f W h1 h2 j hj hjk=>by
    by_cases e:j=k
    · subst e;exact h2
    · exact h1 j hj Pe)
   have wM:=avE hne;clear hvv hpo hne;generalize al[k].1=a at *;generalize au p a=P at *;obtain ⟨aid,Vz,VA,anO,aa0,aright⟩:=a;simp only at c0 c1 c2 c3 c4 c5 hib hpt HP wM;generalize anO.length=vn at *;have HPk:=avE hpt;clear hpt;go_upto_region 5 with fail;obtain ⟨W5,hW⟩:∃ W:World,W=wo.alloc (.cells #[.int .i64 aid,.int .i64 Vz,.int .i64 VA,.slice Av vn cv,.int .i64 aa0,.int .i64 aright] 50):=⟨_,rfl⟩;have HA:=avE (show Below wo.heap.size wo W5 by rw [hW];exact bA (bR wo) _);have X5:ah W5 wo.heap.size 50 #[.int .i64 aid,.int .i64 Vz,.int .i64 VA,.slice Av vn cv,.int .i64 aa0,.int .i64 aright]:=by rw [hW];exact ah.made rfl _ _
   rw [<- hW];clear hW c0 c1 c2 c3 c4 c5 hlb;replace X1:=HX.out.keep HA.out;obtain ⟨bI,bJ,bV,jk,zx,IQ,IU,-,-,-,-,-,-⟩:=X5.gX
   try clear aS
   try clear aT
   try clear aU
   try clear aW
   obtain ⟨aS,aT,aU,aW,-,-,-⟩:=X1.aF;go_wp2_with fail;refine (HPk.out _ (bT Hb.out HA.out)).mono ?_;rintro e w6 ⟨A6,c6,rfl,hb6,wO⟩;simp only [avU,Option.isSome_some,if_true] at wO ⊢;have jq:=avE (bT HA.out hb6);have qp:=avE wO;have dF:=avE (show ah W5 wo.heap.size 50 #[.int .i64 aid,.int .i64 Vz,.int .i64 VA,.slice Av vn cv,.int .i64 aa0,.int .i64 aright] from X5);have X6:=dF.out.keep hb6;have Eu:=avE (HM.out.keep jq.out);have zG:=HA.out.size;have QZ:=hb6.size;clear hb6 wO X5 bI bJ bV jk zx IQ IU X1 aS aT aU aW dF;obtain ⟨w7,hr7,hm7,kD⟩:=Eu.out.upd Pe aid (qX Pe Pe) ⟨A6,P.length,c6⟩ (anL (x:=⟨A6,P.length,c6⟩) qp.out);have HM7:=avE hm7;have nX:=fun (h:gm=w.heap.size)=>(show False by omega);have lS:=avE (ah.grow (HX.out.keep jq.out) kD (fun e=>agj Eu.out (HX.out.keep jq.out) (avP e)));have Dy:=avE (show Own w7 w.heap.size 39 2 dU (bg ⟨A6,P.length,c6⟩) P from Own.grown (Own.fG qp.out Pe) kD (fun g hg e=>agk Eu.out qp.out (hg.trans e)));have Gh:=avE (show ∀ j (hj:j<al.length),j<k->Own w7 w.heap.size 39 2 dU (bg (f al[j].1.id)) (au p al[j].1) from fun j hj hjk =>
    Own.grown ((HO.out j hj hjk).keep jq.out) kD (fun g hg e=>agk Eu.out ((HO.out j hj hjk).keep jq.out) (hg.trans e)))
   have gW:=avE (bG (bT Hb.out jq.out) kD (fun g hg=>by have:=avP hg;omega));unfold bg at hr7;clear hm7 kD nX;obtain ⟨fO,fQ,gK,xU,II,IJ,IK,-,-,-,-,-,-⟩:=X6.gX;go_wp2;go_roundw
   case rel => exact ⟨k+1,fun i=>if i=aid then ⟨A6,P.length,c6⟩ else f i,by omega,by go_num,HM7.out,HP.out (fun i=>if i=aid then ⟨A6,P.length,c6⟩ else f i) w7 (fun j hj hjk=>by
    show Own w7 _ _ _ _ (bg (if _=aid then _ else _)) _
    rw [if_neg (wM.out j hj hjk)];exact Gh.out j hj hjk) (by
    show Own w7 _ _ _ _ (bg (if aid=aid then _ else _)) _
    rw [if_pos rfl];exact Dy.out),lS.out,gW.out⟩
   case measure => simp [intOf];omega
  ·obtain rfl:k=al.length:=by omega
   go_wp2;go_ret;exact ⟨gm,f,rfl,Hb.out,by omega,⟨_,HM.out⟩,fun a ha=>by
    obtain ⟨j,hj,rfl⟩:=qL.out a ha;exact (HO.out j hj hj).sl⟩
def lenV:Value->Nat
 | .slice _ n _=>n
 | _=>0
def zH (S:Int->Bool) (l:List Int) (x:Int):Bool:=S x || decide (x∈l)
theorem anP (S:Int->Bool):zH S []=S:=by
 funext x;simp [zH]
theorem anQ (S:Int->Bool) (l:List Int) (y:Int):(fun i=>if i=y then true else zH S l i)=zH S (l++[y]):=by
 funext x
 unfold zH;by_cases e:x=y
 · subst e;simp
 · simp [e]
theorem anR {f:Int->Int} {D:List Int} (hD:∀ x∈D,f x∈D) (hi:∀ x∈D,∀ y∈D,f x=f y->x=y) {x:Int} (hx:x∈D) {j:Nat} (hj:j<nN f D x):pw f x j∉iter f x j/\pw f x j∈lG f D x:=by
 obtain ⟨-,-,-,-,h5,-⟩:=Dl hD hi hx;constructor
 ·intro hm;obtain ⟨k,hk,e⟩:=BA.1 hm;unfold lG List.Nodup at h5;rw [avJ] at h5;have:=h5 k j (by rw [xZ];omega) (by rw [xZ];omega) hk
  rw [KE,KE] at this;exact this e
 · exact BA.2 ⟨j,hj,rfl⟩
theorem anS {f:Int->Int} {D:List Int} (hD:∀ x∈D,f x∈D) (hi:∀ x∈D,∀ y∈D,f x=f y->x=y) {x:Int} (hx:x∈D):pw f x (nN f D x)∈lG f D x:=by
 obtain ⟨h1,-,h3,-,-,-⟩:=Dl hD hi hx;rw [h3];exact BA.2 ⟨0,h1,rfl⟩
def anT (w:World) (gm n:Nat) (S:Int->Bool) (l:List Int) (e:Ending) (w':World):Prop :=
 ∃ A c,e=.returned (.slice A l.length c)/\Own w' w.heap.size 3 1 dw (.slice A l.length c) l/\oC w' gm (n+l.length) (zH S l)/\w.grownBy w' (some gm)
theorem Q5 {w:World} {gm n:Nat} {f:Int->Bool} (h:oC w gm n f) {g:Nat} {t:TypeId} {cs:Array Value} (hg:ah w g t cs):g≠gm:=by
 rintro rfl;obtain ⟨D,h1,-⟩:=h;obtain ⟨es,clock,h2,-⟩:=h1;unfold ah at hg;rw [hg] at h2
 cases h2
theorem Oi {w:World} {gm n:Nat} {f:Int->Bool} (h:oC w gm n f) {base:Nat} {e:TypeId} {size:Nat} {α:Type} {fe:α->List Value} {v:Value} {l:List α} (ho:Own w base e size fe v l):v.ownBlock≠some gm:=by
 rcases ho.2 with ⟨rfl,_⟩ | ⟨g,cap,cur,rfl,_,hh,_⟩
 · simp [Value.ownBlock]
 ·intro e';exact Q5 h (cs:=cur) (g:=g) hh avt
theorem Own.lI {α:Type} {w:World} {base:Nat} {e:TypeId} {size:Nat} {f:α->List Value} {v:Value} {l:List α} (h:Own w base e size f v l):∃ A c,v=.slice A l.length c/\l.length<=c/\c<=maxLen:=by
 obtain ⟨A,c,rfl,h1,h2,-⟩:=Own.sl h;exact ⟨A,c,rfl,h1,h2⟩
theorem anU (f:Int->Int) (D:List Int) (hD:∀ x∈D,f x∈D) (hi:∀ x∈D,∀ y∈D,f x=f y->x=y) (F:Int->Int) (hF:∀ x∈D,F x=f x) (hw:∀ x∈D,eU x) (hl:D.length<=100000) (S:Int->Bool) (d:Int) (hd:d∈D) (hS:∀ x∈lG f D d,S x=false)
  (gs gn gm gk n m:Nat) (w:World) (hn:n<=1000000) (h1:ah w gs 139 #[.map (some gm)]) (h2:ah w gn 96 #[.map (some gk)]) (hm:oC w gm n S) (hk:oz w gk m F) (hne:gm≠gk) :
  Calls Tryz.prog 119 #[.int .i64 d,.pointer (some ⟨gs,0,none⟩),.pointer (some ⟨gn,0,none⟩)] w (anT w gm n S (lG f D d)):=by
 obtain ⟨o1,o2,o3,-,-,o6⟩:=Dl hD hi hd;obtain ⟨q,hq⟩:∃ q,lG f D d=q:=⟨_,rfl⟩;have agl:iter f d (nN f D d)=q:=hq;have agm:=avE (fun j (hj:j<nN f D d)=>anR hD hi hd hj);have KZ:=avE (fun j=>Eh (f:=f) hD hd j);have hend:=anS hD hi hd;rw [hq] at o6 hS hend agm ⊢;have HF:=avE hF;have HW:=avE hw;have HS:=avE hS;have VB:=avE hend;have VD:=avE agl;have rQ:=avE o6;clear hF hw hS hend agl o6 o3 hD hi hq hd;generalize nN f D d=N at *;have Hm0:=avE hm;have Hk0:=avE hk;have H1:=avE h1;have H2:=avE h2;have n1:=Q5 hm h1;have n2:=Q5 hm h2;have hlt1:=h1.lt;have hlt2:=h2.lt;have aus:=hm.lt;have hltk:=hk.lt;clear hm hk h1 h2;go_enter Tryz.func119,Tryz.ntmps119;go_wp2_with fail;go_loopw [0,4] (fun x s wr=>∃ j:Nat,j<=N/\x=.int .i64 (pw f d j)/\(∃ A c,s=.slice A j c)/\Own wr w.heap.size 3 1 dw s (iter f d j)/\oC wr gm (n+j) (zH S (iter f d j))/\w.grownBy wr (some gm)) (fun _ s _=>N-lenV s)
 case atStart => exact ⟨0,avK _,rfl,⟨none,0,rfl⟩,Own.nil _ _ _ _ _,by rw [show iter f d 0=[] from rfl,anP];exact Hm0.out,gR w _⟩
 case round =>
  obtain ⟨j,hj,rfl,⟨A,c,rfl⟩,own,mp,hg⟩:=hrel;have HO:=avE own;have HM:=avE mp;have HG:=avE hg;have X1:=H1.out.grow hg (fun e=>n1 (avP e));have Nk:w.heap.size<=wr.heap.size:=hg.size;clear own mp hg;obtain ⟨y,hy⟩:∃ y,pw f d j=y:=⟨_,rfl⟩;have hym:=KZ.out j;have hy2:f y=pw f d (j+1):=by rw [<- hy];rfl
  have hFy:F y=pw f d (j+1):=by rw [<- hy2];exact HF.out y (hy ▸ hym)
  have hwy:eU y:=HW.out y (hy ▸ hym);have aa1:=agm.out j;have hlk:=HM.out.look y hwy;rw [hy] at aa1 ⊢;have HY:=avE hy;have HFy:=avE hFy;have HWy:=avE hwy;have HN:=avE aa1;have HYm:=avE (hy ▸ hym);clear hym hy2 hFy hwy aa1;by_cases hlt:j<N
  ·have hsf:zH S (iter f d j) y=false:=by
    unfold zH;have h:=HN.out hlt;rw [HS.out y h.2];simpa using h.1
   rw [hsf] at hlk;obtain ⟨w3,hr3,qm,hg3⟩:=HM.out.upd Pe y HWy.out true;rw [anQ] at qm;have hsn:iter f d j++[y]=iter f d (j+1):=by rw [aae,HY.out]
   rw [hsn] at qm;have tY:=avE qm;have wP:=avE (gT HG.out hg3);have gY:=avE (Own.grown HO.out hg3 (fun g' hg' e=>Oi HM.out HO.out (by rw [hg',e])));have hsz3:wr.heap.size<=w3.heap.size:=hg3.size;have Oj:=avE hsn;clear hsf qm hg3 hsn hy;obtain ⟨aS,aT,-⟩:=X1.iV;go_upto_region 3 with fail;clear hlk hr3 X1 aS aT;go_upto_region 4 with
    (at_builtin
     refine iZ _ rfl (.tmp 11) (.tmp 13) _ rfl (base:=w.heap.size) jR jB jT rfl (Own.alloc gY.out _) rfl (l2:=[y]) (Sl.lit (n:=1) (ah.made rfl _ _) rfl (dP Pe)) avp avp arV ?_;intro v1 w1 ho1 hg1 yx;rw [Oj.out] at ho1;obtain ⟨A1,c1,hv1,-⟩:=Own.lI ho1;rw [xZ] at hv1;subst hv1;have ku:=avE ho1;have hown:=gY.out.lt;have hG1:w.grownBy w1 (some gm):=⟨by rw [hg1.os];exact wP.out.os,by rw [hg1.tape];exact wP.out.tape,by rw [hg1.output];exact wP.out.output,avZ wP.out.size (avZ ars hg1.size),fun i hi hne=>by
      rw [hg1.block i (by simp;have:=wP.out.size;omega) (fun e=>by have:=(hown i e.symm).1;omega),<- wP.out.block i hi hne];exact (bA (bR w3) (.cells #[.int .i64 y] 3)).block i (by have:=wP.out.size;omega)⟩
     have BK:=avE hG1;have mZ:=avE ((tY.out.keep (bA (bR w3) (.cells #[.int .i64 y] 3))).kept hg1 (fun e=>Oi tY.out gY.out e.symm));clear ho1 hg1 yx hG1 hown
     )
   have X2:=H2.out.grow BK.out (fun e=>n2 (avP e));have hlk2:=(Hk0.out.kept BK.out (fun e=>hne (avP e).symm)).look y HWy.out;rw [HFy.out] at hlk2;obtain ⟨aG,aI,-⟩:=X2.iV;go_wp2;go_roundw
   case rel => exact ⟨j+1,by omega,rfl,⟨A1,c1,rfl⟩,ku.out,mZ.out,BK.out⟩
   case measure => simp only [lenV];omega
  ·have hjN:j=N:=by omega
   subst hjN;have hst:zH S (iter f d j) y=true:=by
    unfold zH;have h:=VB.out;rw [HY.out,<- VD.out] at h;simp [h]
   rw [hst] at hlk;clear hst
   try clear aS
   try clear aT
   obtain ⟨aS,aT,-⟩:=X1.iV;go_wp2;go_ret;rw [VD.out] at HO HM;have hL:=rQ.out;have ho:=HO.out;have hm:=HM.out;subst hL;exact ⟨A,c,rfl,ho,hm,HG.out⟩
theorem VE (l:List Int) (j:Nat):(l.flatMap dw)[j]? = (l[j]?).map (.int .i64 ·):=by
 induction l generalizing j with
 | nil=>simp
 | cons a l ih =>
  rw [av5]
  cases j with
  | zero=>rfl
  | succ j =>
   show (.int .i64 a::l.flatMap dw)[j+1]? = _
   rw [List.getElem?_cons_succ,ih,List.getElem?_cons_succ]
theorem VF (l:List Int):(l.flatMap dw).length=l.length:=by
 have:=flat_length dw 1 jB l
 omega
def agn (w:World) (base:Nat) (v:Value) (sl:List Int) (e:Ending) (w':World):Prop :=
 e=.returned (.tuple #[])/\Own w' base 3 1 dw v sl/\w.grownBy w' v.ownBlock
open Go.RowKit Go.Sort
def Jt (lt:Int->Int->Bool) (x y:Int):Int:=if lt x y then -1 else if lt y x then 1 else 0
section
variable {α:Type} [Inhabited α] (enc:α->Value) (w:World)
theorem aa2 (blk off m:Nat) (dk:Array α) (os:Array Obj):(sortWorld enc w blk off m dk os).heap=w.heap.modify blk (onCells (putCells enc off dk))++os:=rfl
theorem agp (blk off m:Nat) (dk:Array α) (os:Array Obj):w.grownBy (sortWorld enc w blk off m dk os) (some blk):=by
 refine ⟨rfl,rfl,rfl,?_,fun i hi hne=>?_⟩
 · rw [aa2];simp
 ·have hne':blk≠i:=fun e=>hne avA;rw [aa2,Array.getElem?_append_left avy,Array.getElem?_modify,if_neg hne']
end
def Q7 (lt:Int->Int->Bool) (D:List Int) (x y:{x:Int // x∈D}):Int:=Jt lt x.1 y.1
theorem VG {lt:Int->Int->Bool} {D:List Int} (x y:{x:Int // x∈D}):ltOf (Q7 lt D) x y=lt x.1 y.1:=by
 unfold ltOf Q7 Jt
 cases h1:lt x.1 y.1
 · cases h2:lt y.1 x.1<;>simp
 · simp
theorem anV {lt:Int->Int->Bool} {D:List Int} (ho:FN lt D):SWO (ltOf (Q7 lt D)) where
 irrefl x:=by
  rw [VG]
  cases h:lt x.1 x.1
  · rfl
  · have:=ho.asym _ x.2 _ x.2 h;rw [h] at this;cases this
 trans x y z h1 h2:=by
  rw [VG] at *
  cases h:lt x.1 z.1
  ·have h3:=ho.asym _ y.2 _ z.2 h2;have:=ho.ntr _ x.2 _ z.2 _ y.2 h h3
   rw [h1] at this;cases this
  · rfl
 ntrans x y z h1 h2:=by
  rw [VG] at *;exact ho.ntr _ x.2 _ y.2 _ z.2 h1 h2
theorem anW (base:Nat) (v:Value) (sl:List Int) (lt:Int->Int->Bool) (fn:Nat) (cb:Array Value) (w:World) (hown:Own w base 3 1 dw v sl) (ho:FN lt sl) (hn:sl.length<=4294967296)
  (eg:∀ args w,(callFunc fn args).run Tryz.prog w=.ok (.enter fn args) w)
  (hc:∀ W,w.grownBy W v.ownBlock->∀ x∈sl,∀ y∈sl,Calls Tryz.prog fn (#[.int .i64 x,.int .i64 y]++cb) W fun e w'=>e=.returned (.int .i64 (Jt lt x y))/\yY W w') :
  Calls Tryz.prog 175 #[v,.func (.func fn) #[] cb] w (agn w base v (sortB lt sl)):=by
 rcases sl with _ | ⟨s0,rest⟩
 ·have hv:∃ p cap,v=.slice p 0 cap:=by
   rcases hown.2 with ⟨h,_⟩ | ⟨g,cap,cur,h,_⟩
   · exact ⟨_,_,h⟩
   · exact ⟨_,_,h⟩
  obtain ⟨p,cap,rfl⟩:=hv;refine Calls.mono (AnyF.slices_SortFunc_none {Tryz.sortIn with} p cap (.func (.func fn) #[] cb) w) ?_;rintro e w' ⟨rfl,rfl⟩;exact ⟨rfl,hown,World.grownBy.refl _ _⟩
 generalize hsl:s0::rest=sl at *;have hs0:s0∈sl:=by rw [<- hsl];simp
 have hpos:0<sl.length:=by rw [<- hsl];simp
 obtain ⟨hlen,hown2⟩:=hown;rcases hown2 with ⟨_,h0⟩ | ⟨g,cap,cur,rfl,hg,hh,hnc,hcm,hcs,hx⟩
 · omega
 haveI hI:Inhabited ({x:Int // x∈sl}):=⟨⟨s0,hs0⟩⟩
 have hdl:∃ dl:List ({x:Int // x∈sl}),dl.map (·.1)=sl:=⟨sl.attachWith (·∈sl) (fun _ h=>h),by simp⟩;obtain ⟨dl,hdl⟩:=hdl;have hdn:dl.length=sl.length:=by have:=congrArg List.length hdl;simpa using this
 have hcur:∀ j,j<sl.length->cur[j]? = (sl[j]?).map (.int .i64 ·):=fun j hj=>by
  rw [<- VE,<- hx,List.getElem?_take,if_pos Pe];simp
 let enc:{x:Int // x∈sl}->Value:=fun x=>.int .i64 x.1
 have hcmp:CmpLays1 Tryz.prog fn cb enc (Q7 lt sl) g 0 dl.toArray.size w:=fun m os dk hdk x y=>by
  have hg':=agp enc w g 0 m dk os;exact (hc _ hg' x.1 x.2 y.1 y.2).mono fun e w' h=>⟨h.1,aei h.2⟩
 have hget:∀ j,j<dl.length->sl[j]? = some (dl.toArray[j]!).1:=fun j hj=>by
  have e1:dl.toArray[j]! = dl[j]:=by rw [getElem!_pos dl.toArray j (by simpa using hj)];simp
  rw [e1]
  have:sl[j]? = (dl.map (·.1))[j]? := by rw [hdl]
  rw [this,List.getElem?_map,avG hj];rfl
 have hH:Holds enc w g 0 dl.toArray:=fun j hj=>by
  have hj':j<dl.length:=by simpa using hj
  refine ⟨?_,ah.frozen (t:=3) (cs:=cur) hh _⟩;rw [cell_of_row w g _ cur 3 (0,0) hh,Nat.zero_add,hcur j Pe,hget j hj'];rfl
 have hcon:=Any.slices_SortFunc Tryz.sortIn enc (fun _=>rfl) (Q7 lt sl) (anV ho) fn cb g 0 cap dl.toArray w eg hcmp hH (ah.lt hh) arV;have hns:dl.toArray.size=sl.length:=by simp [hdn]
 rw [hns] at hcon;refine Calls.mono hcon ?_;rintro e w' ⟨rfl,d',n,os,hp,hs,rfl⟩;obtain ⟨p1,-,p3⟩:=hp;have hd':d'.size=sl.length:=by rw [p1,hns]
 have hperm:d'.toList.Perm dl:=by
  have e1:d'.extract 0 sl.length=d':=by rw [<- hd'];simp
  have e2:dl.toArray.extract 0 sl.length=dl.toArray:=by rw [<- hns];simp
  rw [e1,e2] at p3;simpa using p3
 have anX:(d'.toList.map (·.1)).Perm sl:=by
  have h1:(d'.toList.map (·.1)).Perm (dl.map (·.1)):=hperm.map _;exact h1.trans (List.Perm.of_eq hdl)
 have hsorted:(d'.toList.map (·.1)).Pairwise (fun a b=>lt b a=false):=by
  rw [List.pairwise_map,avJ];intro i j hi hj hij;have hj':j<d'.size:=by simpa using hj
  have:=hs i j (avK _) hij (by rw [<- hd'];exact hj')
  rw [VG,getElem!_pos d' j hj',getElem!_pos d' i Pe] at this;simpa using this
 have hd2:d'.toList.map (·.1)=sortB lt sl:=al5 ho anX hsorted;refine ⟨rfl,?_,agp enc w g 0 n d' os⟩;rw [<- hd2];have hl':(d'.toList.map (·.1)).length=sl.length:=by simp [hd']
 unfold Own;rw [hl'];refine ⟨by rw [VF,hl'];omega,.inr ⟨g,cap,putCells enc 0 d' cur,rfl,hg,?_,hnc,hcm,by simp [putCells,hcs],?_⟩⟩
 ·have hgl:g<w.heap.size:=ah.lt hh;rw [aa2,Array.getElem?_append_left (by simpa using hgl),Array.getElem?_modify,if_pos rfl,hh];rfl
 ·apply List.ext_getElem?;intro j;rw [List.getElem?_take];by_cases hj:j<sl.length*1
  ·rw [if_pos hj];have hjc:j<cur.size:=by rw [hcs];omega
   have hjd:j<d'.size:=by rw [hd'];omega
   rw [VE,List.getElem?_map];have e1:(putCells enc 0 d' cur).toList[j]? = some (enc d'[j]!):=by
    simp [putCells,hjc,hjd]
   rw [e1,getElem!_pos d' j hjd,Array.getElem?_toList,Array.getElem?_eq_getElem hjd];rfl
  · rw [if_neg hj,awj (by rw [VF,hl'];omega)]
end Go.Proofs.YtialfdomhoojiaaGreat
