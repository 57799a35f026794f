import Derived.Test.YtialfdomhoojiaaGreatJ12
import Derived.Test.YtialfdomhoojiaaGreatJ03
import Derived.Test.YtialfdomhoojiaaGreatJ09
set_option linter.unusedSimpArgs false
set_option linter.unusedVariables false
namespace Go.Proofs.YtialfdomhoojiaaGreat
open Go.RowKit
set_option linter.unusedSectionVars false
theorem Om {a b u:Pt} (hab:hY a<hY b) (h:jO a b u):hY a<=hY u/\hY u<=hY b:=by
 obtain ⟨h0,x1,x2,y1,y2⟩:=h;have k1:(hY u-hY a)*(b.y-a.y)=(u.y-a.y)*(hY b-hY a):=by unfold tw at h0;unfold hY;grind
 have k2:(hY u-hY a)*(b.x-a.x)=(u.x-a.x)*(hY b-hY a):=by unfold tw at h0;unfold hY;grind
 have hN:0<hY b-hY a:=by omega
 have hd:hY b-hY a=8388608*(b.y-a.y)+(b.x-a.x):=by unfold hY;omega
 have hu:hY u-hY a=8388608*(u.y-a.y)+(u.x-a.x):=by unfold hY;omega
 have hv:hY b-hY u=8388608*(b.y-u.y)+(b.x-u.x):=by unfold hY;omega
 generalize hY b-hY a=N at *;have s:∀ {x y:Int},0<x->0<y->0<x*y:=fun h1 h2=>Int.mul_pos h1 h2;have s2:∀ {x y:Int},x<0->0<y->x*y<0:=fun h1 h2=>Int.mul_neg_of_neg_of_pos h1 h2;have s3:∀ {x y:Int},0<x->y<0->x*y<0:=fun h1 h2=>Int.mul_neg_of_pos_of_neg h1 h2;have s4:∀ {x y:Int},x<0->y<0->0<x*y:=fun h1 h2=>Int.mul_pos_of_neg_of_neg h1 h2;have nn:∀ {x y:Int},0<=x->0<=y->0<=x*y:=fun h1 h2=>Int.mul_nonneg h1 h2;have np:∀ {x y:Int},x<=0->0<=y->x*y<=0:=fun h1 h2=>Int.mul_nonpos_of_nonpos_of_nonneg h1 h2;have k1':(hY b-hY u)*(b.y-a.y)=(b.y-u.y)*N:=by
  have:(hY b-hY u)+(hY u-hY a)=N:=by omega
  have e:(hY b-hY u)*(b.y-a.y)=N*(b.y-a.y)-(hY u-hY a)*(b.y-a.y):=by rw [<- this];grind
  rw [e,k1];grind
 have k2':(hY b-hY u)*(b.x-a.x)=(b.x-u.x)*N:=by
  have:(hY b-hY u)+(hY u-hY a)=N:=by omega
  have e:(hY b-hY u)*(b.x-a.x)=N*(b.x-a.x)-(hY u-hY a)*(b.x-a.x):=by rw [<- this];grind
  rw [e,k2];grind
 have key:∀ {m d q:Int},m*d=q*N->(0<d->0<=q)->(d<0->q<=0)->d≠0->0<=m:=by
  intro m d q e h1 h2 hd0;apply Classical.byContradiction;intro hm;rcases Int.lt_or_gt_of_ne hd0 with g | g
  ·have:=s4 (show m<0 by omega) g
   have:=np (h2 g) (show 0<=N by omega)
   omega
  ·have:=s2 (show m<0 by omega) g
   have:=nn (h1 g) (show 0<=N by omega)
   omega
 by_cases hy:b.y-a.y=0
 ·have hx:b.x-a.x≠0:=by omega
  have m1:=key k2 (by omega) (by omega) hx;have m2:=key k2' (by omega) (by omega) hx;omega
 ·have m1:=key k1 (by omega) (by omega) hy;have m2:=key k1' (by omega) (by omega) hy;omega
theorem aeC {u v a b s:Pt} (hne:u≠v) (ha:tw u v a=0) (hb:tw u v b=0) (hs:tw u v s=0):tw a b s=0:=by
 have h0:=Pt.QV hne;unfold tw at *;exact parallel h0 (by grind) (by grind)
theorem aeD {a b:Pt} (na:aW a=true) (nb:aW b=true) (hne:a≠b):∃ s t,((a=s/\b=t)\/(a=t/\b=s))/\hY s<hY t/\aW s=true/\aW t=true:=by
 rcases Int.lt_trichotomy (hY a) (hY b) with c | c | c
 · exact ⟨a,b,.inl ⟨rfl,rfl⟩,c,na,nb⟩
 · exact absurd (nT na nb c) hne
 · exact ⟨b,a,.inr ⟨rfl,rfl⟩,c,nb,na⟩
theorem Oo {a b v:Pt} (h:jO a b v):jO b a v:=by
 obtain ⟨h0,h1⟩:=h;refine ⟨?_,by rw [Int.min_comm,Int.max_comm b.x,Int.min_comm b.y,Int.max_comm b.y];exact h1⟩
 have:tw b a v=-tw a b v:=by unfold tw;grind
 omega
theorem aeE {a b c d u v:Pt} (na:aW a=true) (nb:aW b=true) (nc:aW c=true) (nd:aW d=true) (nu:aW u=true) (nv:aW v=true) (hab:a≠b) (hcd:c≠d) (huv:u≠v)
  (h1:jO a b u) (h2:jO a b v) (h3:jO c d u) (h4:jO c d v):qg a b c d=2:=by
 obtain ⟨s,t,e1,l1,-,-⟩:=aeD na nb hab;obtain ⟨x,y,e2,l2,-,-⟩:=aeD nc nd hcd;have hh:hY u≠hY v:=fun e=>huv (nT nu nv e);have h1':jO s t u:=by rcases e1 with ⟨rfl,rfl⟩ | ⟨rfl,rfl⟩;exact h1;exact Oo h1
 have h2':jO s t v:=by rcases e1 with ⟨rfl,rfl⟩ | ⟨rfl,rfl⟩;exact h2;exact Oo h2
 have h3':jO x y u:=by rcases e2 with ⟨rfl,rfl⟩ | ⟨rfl,rfl⟩;exact h3;exact Oo h3
 have h4':jO x y v:=by rcases e2 with ⟨rfl,rfl⟩ | ⟨rfl,rfl⟩;exact h4;exact Oo h4
 have q1:=Om l1 h1';have q2:=Om l1 h2';have q3:=Om l2 h3';have q4:=Om l2 h4';have hst:s≠t:=fun e=>by rw [e] at l1;omega
 have hxy:x≠y:=fun e=>by rw [e] at l2;omega
 obtain ⟨p1,p2⟩:=Kw hst h1'.1 h2'.1;obtain ⟨p3,p4⟩:=Kw hxy h3'.1 h4'.1;exact XZ e1 e2 l1 l2 (aeC huv p1 p2 p3) (aeC huv p1 p2 p4) (by omega) (by omega)
theorem amv {a b c d v:Pt} (na:aW a=true) (nb:aW b=true) (nc:aW c=true) (nd:aW d=true) (nv:aW v=true) (hab:a≠b) (hcd:c≠d) (h1:jO a b v) (h2:jO c d v):qg a b c d≠0:=by
 intro h0;have lin:∀ {a b c d:Pt},aW c=true->aW d=true->c≠d->tw a b v=0->jO c d v->(tw a b c<=0/\0<=tw a b d)\/(0<=tw a b c/\tw a b d<=0):=by
  intro a b c d nc nd hcd e ho;have go:∀ {c d:Pt},hY c<hY d->jO c d v->(tw a b c<=0/\0<=tw a b d)\/(0<=tw a b c/\tw a b d<=0):=by
   intro c d hlt ho;have hb:=Om hlt ho;have k:tw a b c*(hY d-hY v)+tw a b d*(hY v-hY c)=0:=by
    have:=ho.1
    have k0:tw a b c*(hY d-hY v)+tw a b d*(hY v-hY c)=tw a b v*(hY d-hY c)-(hY b-hY a)*tw c d v:=by unfold tw hY;grind
    rw [k0,e,this];simp
   have p1:∀ {x y:Int},0<x->0<=y->0<=x*y:=fun h1 h2=>Int.mul_nonneg (by omega) h2;have p2:∀ {x y:Int},x<0->0<=y->x*y<=0:=fun h1 h2=>Int.mul_nonpos_of_nonpos_of_nonneg (by omega) h2;have p3:∀ {x y:Int},0<x->0<y->0<x*y:=fun h1 h2=>Int.mul_pos h1 h2;have p4:∀ {x y:Int},x<0->0<y->x*y<0:=fun h1 h2=>Int.mul_neg_of_neg_of_pos h1 h2;generalize tw a b c=u1 at *;generalize tw a b d=u2 at *;have hA:0<=hY d-hY v:=by omega
   have hB:0<=hY v-hY c:=by omega
   have hAB:0<hY d-hY v\/0<hY v-hY c:=by omega
   generalize hY d-hY v=A at *;generalize hY v-hY c=B at *;clear hb ho e hlt;rcases Int.lt_trichotomy u1 0 with g1 | g1 | g1
   ·rcases Int.lt_trichotomy u2 0 with g2 | g2 | g2
    ·exfalso;have:=p2 g1 hA;have:=p2 g2 hB
     rcases hAB with q | q
     · have:=p4 g1 q;omega
     · have:=p4 g2 q;omega
    · omega
    · omega
   · omega
   ·rcases Int.lt_trichotomy u2 0 with g2 | g2 | g2
    · omega
    · omega
    ·exfalso;have:=p1 g1 hA;have:=p1 g2 hB
     rcases hAB with q | q
     · have:=p3 g1 q;omega
     · have:=p3 g2 q;omega
  rcases Int.lt_trichotomy (hY c) (hY d) with g | g | g
  · exact go g ho
  · exact absurd (nT nc nd g) hcd
  · have:=go g (Oo ho);omega
 have l1:=lin (a:=a) (b:=b) nc nd hcd h1.1 h2;have l2:=lin (a:=c) (b:=d) na nb hab h2.1 h1;have e:=NU a b c d;by_cases hp:tw a b d-tw a b c=0
 ·have z1:tw a b c=0/\tw a b d=0:=by omega
  obtain ⟨z3,z4⟩:=Kw hab z1.1 z1.2;unfold qg at h0;rw [if_neg (fun e=>hab e.1),if_pos (by rw [XE];omega),if_pos ⟨z1.1,z1.2,z3,z4⟩,yY] at h0;have b1:=(WI a b v hab h1.1).1 ⟨h1.2.1,h1.2.2.1,h1.2.2.2.1,h1.2.2.2.2⟩;have b2:=(WI c d v hcd h2.1).1 ⟨h2.2.1,h2.2.2.1,h2.2.2.2.1,h2.2.2.2.2⟩;have g1:bF v (hi (lo a b) (lo c d))=false:=adr b1.1 b2.1;have g2:bF (lo (hi a b) (hi c d)) v=false:=ads b1.2 b2.2;split at h0
  · cases h0
  ·rename_i hne;split at h0
   · cases h0
   ·rename_i hb;rw [Bool.not_eq_true] at hb;apply hne;rw [<- Bool.not_eq_true,nR] at g1 g2 hb;rw [Pt.ext_iff'];omega
 ·have NM:=adW hab h0 hp;omega
theorem amw {D:Int} (hD:0<D) {a b v:Pt} (na:aW a=true) (nb:aW b=true) (nv:aW v=true) (hne:a≠b) (hd:hY b-hY a∣D) (hav:a≠v) (hbv:b≠v) (hoff:¬ jO a b v) :
  (if 2*D*v.x<xE D a b (2*hY v) then dZ (2*hY v) a b else 0)=oK a b v:=by
 have key:∀ {a b:Pt},hY a<hY b->hY b-hY a∣D->hY a≠hY v->hY b≠hY v->(if 2*D*v.x<xE D a b (2*hY v) then dZ (2*hY v) a b else 0)=oK a b v:=by
  intro a b hab hd ha hb;have hx:=aew hD (v:=v) hab hd;simp only [hx];unfold oK dZ;rw [if_neg (show ¬ (hY b<hY v/\hY v<hY a/\0<tw b a v) by omega)];by_cases c:0<tw a b v
  ·rw [if_pos c];by_cases c1:hY a<hY v
   ·by_cases c2:hY v<hY b
    · rw [if_pos (by omega),if_neg (by omega),if_pos ⟨c1,c2,c⟩];rfl
    · rw [if_neg (by omega),if_neg (by omega),if_neg (fun e=>c2 e.2.1)];rfl
   · rw [if_pos (by omega),if_pos (by omega),if_neg (fun e=>c1 e.1)];rfl
  · rw [if_neg c,if_neg (fun e=>c e.2.2)]
 have ha:hY a≠hY v:=fun e=>hav (nT na nv e);have hb:hY b≠hY v:=fun e=>hbv (nT nb nv e);rcases Int.lt_trichotomy (hY a) (hY b) with c | c | c
 · exact key c hd ha hb
 · exact absurd (nT na nb c) hne
 ·have:=key c (by rw [show hY a-hY b=-(hY b-hY a) by omega];exact Int.neg_dvd.2 hd) hb ha
  rw [EU,XD] at this;have e2:dZ (2*hY v) b a=-dZ (2*hY v) a b:=by unfold dZ;omega
  rw [e2] at this;split at this<;>rename_i g<;>first | (rw [if_pos g];omega) | (rw [if_neg g];omega)
section
variable {p:Pl} (h:Valid p)
include h
theorem Valid.amx {z:Int->Int} (hz:fZ p z) {v:Pt} (nv:aW v=true) (hoff:Dh p z v):yC p z v=cu p z (fun a b=>oK a b v):=by
 obtain ⟨D,hD,hd⟩:=h.SK;rw [h.aex hz hD hd nv hoff];refine (Ky p z D (2*hY v) (fun x s=>if 2*D*v.x<x then s else 0) (fun x c s=>by split<;>simp)).trans ?_;exact SA fun a ha hza k hk=>amw hD (h.bV ha (k:=k) (by omega)) (h.bV ha hk) nv (h.distinct ha hk).1 (hd a ha k hk) (h.EW hoff ha hza (k:=k) (by omega)) (h.EW hoff ha hza hk) (hoff a ha hza k hk)
theorem Valid.aeF {z:Int->Int} (hz:fZ p z) {v:Pt} (nv:aW v=true) (hoff:Dh p z v) (u:Pt):lV p z v u=yC p z v:=by
 rw [h.amx hz nv hoff];unfold lV;refine SA fun a ha hza k hk=>?_;have e1:=h.EW hoff ha hza (k:=k) (by omega);have e2:=h.EW hoff ha hza hk;unfold rH;rw [if_neg (fun e=>e1 e.1),if_neg (fun e=>e2 e.1)];omega
theorem Valid.SX {z:Int->Int} (hz:fZ p z) {a:Ar} (ha:a∈p.ah) {k:Nat} (hk:k<(au p a).length) (hoff:Dh p z ((au p a).getD k aB)) :
  yC p z ((au p a).getD k aB)=Hz p z a.id/\Hz p z (-a.id)=Hz p z a.id:=by
 have hl:=fJ p a;have nv:=h.bV ha hk;have hp:=h.Dc hz ha;have h0:z a.id=0:=Classical.byContradiction fun hne=>h.EW hoff ha hne hk rfl;rw [h0] at hp;refine ⟨?_,by omega⟩;by_cases h1:k+1<(au p a).length
 ·have:=(h.Og hz ha h1).1
  rw [h.aeF hz nv hoff] at this;omega
 ·obtain ⟨m,rfl⟩:∃ m,k=m+1:=⟨k-1,by omega⟩;have:=(h.Og hz ha (m:=m) hk).2
  rw [h.aeF hz nv hoff] at this;omega
theorem Valid.amy {a c:Ar} (ha:a∈p.ah) (hc:c∈p.ah) (hne:a≠c) {k m:Nat} (hk:k+1<(au p a).length) (hm:m+1<(au p c).length) {v:Pt} (nv:aW v=true)
  (h1:jO ((au p a).getD k aB) ((au p a).getD (k+1) aB) v) (h2:jO ((au p c).getD m aB) ((au p c).getD (m+1) aB) v):∃ n∈p.nodes,n.pt=v/\(a.fr=n.id\/a.dst=n.id)/\(c.fr=n.id\/c.dst=n.id):=by
 have go:∀ {a c:Ar} {k m:Nat},a∈p.ah->c∈p.ah->a≠c->k+1<(au p a).length->m+1<(au p c).length->jO ((au p a).getD k aB) ((au p a).getD (k+1) aB) v->jO ((au p c).getD m aB) ((au p c).getD (m+1) aB) v ->
   sH p (bQ p a k) (bQ p c m)=true->∃ n∈p.nodes,n.pt=v/\(a.fr=n.id\/a.dst=n.id)/\(c.fr=n.id\/c.dst=n.id):=by
  intro a c k m ha hc hne hk hm h1 h2 hj;have n1:=h.bV ha (k:=k) (by omega);have n2:=h.bV ha hk;have n3:=h.bV hc (k:=m) (by omega);have n4:=h.bV hc hm;have d1:=(h.distinct ha hk).1;have d2:=(h.distinct hc hm).1;have hm0:=amv n1 n2 n3 n4 nv d1 d2 h1 h2;unfold sH at hj;split at hj
  ·obtain ⟨x,hx,hat⟩:=List.any_eq_true.1 hj;unfold Ef bQ at hat;simp only [Bool.and_eq_true] at hat;obtain ⟨⟨⟨e1,e2⟩,o1⟩,o2⟩:=hat;have nx:=h.Rz hx;rw [<- WG] at o1 o2;have o1:=(KC n1 n2 nx).1 o1;have o2:=(KC n3 n4 nx).1 o2;have ends:∀ {b:Ar},GH b x.id=true->b.fr=x.id\/b.dst=x.id:=fun he=>by
    unfold GH at he;simpa using he
   refine ⟨x,hx,?_,ends e1,ends e2⟩;apply Classical.byContradiction;intro hxv;have r1:=aeE n1 n2 n3 n4 nx nv d1 d2 hxv o1 h1 o2 h2;have r2:=aeE n3 n4 n1 n2 nx nv d2 d1 hxv o2 h2 o1 h1;exact h.aep ha hc hk hm (fun e=>hne e.1) ⟨r1,r2⟩
  ·rw [beq_iff_eq] at hj;unfold ig bQ at hj;rw [if_pos (CP n1 n2 n3 n4)] at hj;exact absurd hj hm0
 have hpw:=h.tY.2.2;obtain ⟨i,hi,rfl⟩:=List.mem_iff_getElem.1 ha;obtain ⟨j,hj,rfl⟩:=List.mem_iff_getElem.1 hc;rw [List.pairwise_iff_getElem] at hpw;rcases Nat.lt_trichotomy i j with hij | hij | hij
 · exact go ha hc hne hk hm h1 h2 (hpw i j hi hj hij k hk m hm)
 · subst hij;exact absurd rfl hne
 ·obtain ⟨n,h1,h2,h3,h4⟩:=go hc ha (fun e=>hne e.symm) hm hk h2 h1 (hpw j i hj hi hij m hm k hk);exact ⟨n,h1,h2,h4,h3⟩
theorem Valid.YD {X:List Int} (hX:X∈aY p) {r:Int} (hr:r∈X) {a:Ar} (ha:a∈p.ah) (hs:aS p p.ah.length a.id≠aS p p.ah.length r) {k:Nat} (hk:k<(au p a).length) :
  ∀ q∈bU p X,fO q.1 q.2 ((au p a).getD k aB)=false:=by
 intro q hq;obtain ⟨c,hc,hcm,m,hm,rfl⟩:=h.SN (h.kK hX).2 hq;rw [<- Bool.not_eq_true];intro ho;have hl:=fJ p a;have hcs:aS p p.ah.length c.id=aS p p.ah.length r:=by
  have hmc:c.id∈aQ p:=jD.2 ⟨c,hc,.inl rfl⟩;rcases hcm with g | g
  · exact h.yB hX g hr
  · rw [<- h.xq hmc];exact h.yB hX g hr
 have hne:a≠c:=by rintro rfl;exact hs hcs
 obtain ⟨j,hj,hon⟩:∃ j,j+1<(au p a).length/\jO ((au p a).getD j aB) ((au p a).getD (j+1) aB) ((au p a).getD k aB):=by
  by_cases h1:k+1<(au p a).length
  · exact ⟨k,h1,CX _ _,by omega⟩
  ·obtain ⟨j,rfl⟩:∃ j,k=j+1:=⟨k-1,by omega⟩;exact ⟨j,hk,CZ _ _,by omega⟩
 obtain ⟨n,hn,-,ea,ec⟩:=h.amy ha hc hne hj hm (h.bV ha hk) hon ((KC (h.bV hc (by omega)) (h.bV hc hm) (h.bV ha hk)).1 ho);have aeG:∀ {a:Ar},a∈p.ah->(a.fr=n.id\/a.dst=n.id)->∃ d∈dB p n.id,aS p p.ah.length d=aS p p.ah.length a.id:=by
  intro a ha hor;have hma:a.id∈aQ p:=jD.2 ⟨a,ha,.inl rfl⟩;rcases hor with e | e
  · exact ⟨a.id,(h.oV hn).symm.subset (wZ.2 ⟨a,ha,.inl ⟨rfl,e⟩⟩),rfl⟩
  · exact ⟨-a.id,(h.oV hn).symm.subset (wZ.2 ⟨a,ha,.inr ⟨rfl,e⟩⟩),h.xq hma⟩
 obtain ⟨d1,m1,q1⟩:=aeG ha ea;obtain ⟨d2,m2,q2⟩:=aeG hc ec;exact hs (by rw [<- q1,h.XU hn m1 m2,q2,hcs])
end
set_option linter.unusedSectionVars false
def aN (p:Pl):List (List Int):=(aY p).filter (fun X=>decide (0<eY p X))
def iP (p:Pl):List (List Int):=(aY p).filter (fun X=>!decide (0<eY p X))
def iK (p:Pl) (v:Pt):Option (List Int):=kW (fun X=>encS p X v) (eY p) (aN p)
theorem kH {p:Pl} {X:List Int}:X∈aN p↔X∈aY p/\0<eY p X:=by unfold aN;rw [List.mem_filter,decide_eq_true_eq]
theorem zC {p:Pl} {X:List Int}:X∈iP p↔X∈aY p/\¬ 0<eY p X:=by unfold iP;rw [List.mem_filter];simp
section
variable {p:Pl} (h:Valid p)
include h
theorem Valid.YE {X:List Int} (hX:X∈aN p) {r:Int} (hr:r∈X) {a:Ar} (ha:a∈p.ah) (hs:aS p p.ah.length a.id=aS p p.ah.length r) {k:Nat} (hk:k<(au p a).length):encS p X ((au p a).getD k aB)=false:=by
 rw [kH] at hX;have nv:=h.bV ha hk;have hma:a.id∈aQ p:=jD.2 ⟨a,ha,.inl rfl⟩;have hl:=fJ p a;rw [<- Bool.not_eq_true];intro he;obtain ⟨g1,g2⟩:=(h.SQ hX.1 hX.2 nv).1 he;have hoff:=h.SS nv g1;obtain ⟨w1,w2⟩:=h.SX (h.rJ hX.1) ha hk hoff;rw [h.Di hX.1 hX.2 hr hma hs] at w1;rw [w1] at g2;have hin:a.id∈X:=Classical.byContradiction fun c=>by rw [if_neg c] at g2;cases g2
 obtain ⟨j,hj,hon⟩:∃ j,j+1<(au p a).length/\jO ((au p a).getD j aB) ((au p a).getD (j+1) aB) ((au p a).getD k aB):=by
  by_cases h1:k+1<(au p a).length
  · exact ⟨k,h1,CX _ _,by omega⟩
  ·obtain ⟨j,rfl⟩:∃ j,k=j+1:=⟨k-1,by omega⟩;exact ⟨j,hk,CZ _ _,by omega⟩
 have:=g1 _ (h.Yz ha (.inl hin) hj)
 rw [(KC (h.bV ha (by omega)) (h.bV ha hj) nv).2 hon] at this
 cases this
theorem Valid.amA {X:List Int} (hX:X∈aN p) {a b:Ar} (ha:a∈p.ah) (hb:b∈p.ah) (hs:aS p p.ah.length a.id=aS p p.ah.length b.id) {k m:Nat} (hk:k<(au p a).length) (hm:m<(au p b).length) :
  encS p X ((au p a).getD k aB)=encS p X ((au p b).getD m aB):=by
 have hX':=kH.1 hX;obtain ⟨r,-,-,-,hr⟩:=h.o7 hX'.1;by_cases hc:aS p p.ah.length a.id=aS p p.ah.length r
 · rw [h.YE hX hr ha hc hk,h.YE hX hr hb (by rw [<- hs];exact hc) hm]
 ·have hma:a.id∈aQ p:=jD.2 ⟨a,ha,.inl rfl⟩;have hmb:b.id∈aQ p:=jD.2 ⟨b,hb,.inl rfl⟩;have o1:=h.YD hX'.1 hr ha hc hk;have o2:=h.YD hX'.1 hr hb (by rw [<- hs];exact hc) hm;have w1:=(h.SX (h.rJ hX'.1) ha hk (h.SS (h.bV ha hk) o1)).1;have w2:=(h.SX (h.rJ hX'.1) hb hm (h.SS (h.bV hb hm) o2)).1;have e:=(h.Yx hX'.1 hX'.2 hr hma hc).2 _ hmb hs.symm;rw [Bool.eq_iff_iff,h.SQ hX'.1 hX'.2 (h.bV ha hk),h.SQ hX'.1 hX'.2 (h.bV hb hm),w1,w2,e];exact ⟨fun g=>⟨o2,g.2⟩,fun g=>⟨o1,g.2⟩⟩
theorem Valid.amB {a b:Ar} (ha:a∈p.ah) (hb:b∈p.ah) (hs:aS p p.ah.length a.id=aS p p.ah.length b.id) {k m:Nat} (hk:k<(au p a).length) (hm:m<(au p b).length) :
  iK p ((au p a).getD k aB)=iK p ((au p b).getD m aB):=by
 unfold iK kW;have:∀ (l:List (List Int)) (o:Option (List Int)),(∀ X∈l,X∈aN p)->l.foldl (zB (fun X=>encS p X ((au p a).getD k aB)) (eY p)) o=l.foldl (zB (fun X=>encS p X ((au p b).getD m aB)) (eY p)) o:=by
  intro l
  induction l with
  | nil=>intro o _;rfl
  | cons X l ih =>
   intro o hl;rw [List.foldl_cons,List.foldl_cons,ih _ (fun Y hY=>hl Y (List.mem_cons_of_mem _ hY))];congr 1;have e:=h.amA (hl X List.mem_cons_self) ha hb hs hk hm;simp only [zB,e]
 exact this _ _ fun X hX=>hX
end
def oO (p:Pl) (c:List Int):Pt:=(gu p (c.headD 0)).getD 0 aB
def lW (p:Pl) (b:Option (List Int)):List (List Int):=(iP p).filter (fun c=>decide (iK p (oO p c)=b))
def sW (p:Pl) (b:Option (List Int)):List Int:=(p.nodes.filter (fun n=>decide (iM p.ah n.id=0/\iK p n.pt=b))).map (·.id)
def oP (p:Pl) (b:Option (List Int)):Int:=match b with
 | none=>0
 | some X=>jd p (X.headD 0)
def jq (p:Pl) (b:Option (List Int)):List (List Int):=b.getD []::lW p b
structure EY (p:Pl):Prop where
 some:∀ X∈aN p,jd p (X.headD 0)≠0
 differ:((aN p).map (fun X=>jd p (X.headD 0))).Nodup
 sides:∀ b,(b=none\/∃ X∈aN p,b=Option.some X)->∀ c∈jq p b,∀ d∈c,jd p d=oP p b
 all:(aN p).length=p.faces.length
theorem aeH {w:World} {gm n:Nat} {f:Int->SV} (h:oG w gm n f) {g:Nat} {t:TypeId} {cs:Array Value} (hg:aj w g t cs):g≠gm:=by
 rintro rfl;obtain ⟨D,h1,-⟩:=h;obtain ⟨es,clock,h2,-⟩:=h1;unfold aj at hg;rw [hg] at h2
 cases h2
theorem aeI {w:World} {gm n:Nat} {f:Int->SV} (h:oG w gm n f) {base:Nat} {e:TypeId} {size:Nat} {α:Type} {fe:α->List Value} {v:Value} {l:List α} (ho:Own w base e size fe v l):v.ownBlock≠some gm:=by
 rcases ho.2 with ⟨rfl,_⟩ | ⟨g,cap,cur,rfl,_,hh,_⟩
 · simp [Value.ownBlock]
 ·intro e';exact aeH h (cs:=cur) (g:=g) hh (by simpa [Value.ownBlock] using e')
theorem amC {w:World} {base:Nat} {e:TypeId} {size:Nat} {α:Type} {fe:α->List Value} {x:SV} {l:List α} (ho:Own w base e size fe (aH x) l):x.ok:=by
 obtain ⟨a,n,c⟩:=x;rcases ho.2 with ⟨h,_⟩ | ⟨g,cap,cur,h,_⟩
 · unfold aH at h;injection h with h1;exact .inl h1
 · unfold aH at h;injection h with h1;exact .inr ⟨g,0,h1⟩
structure qQ (w:World) (b:Nat) (p:Pl) (f:Int->SV):Prop where
 mp:∃ n,oG w b n f
 rd:∀ a∈p.ah,gG w (aH (f a.id)) (au p a)
theorem qQ.keep {w w':World} {b:Nat} {p:Pl} {f:Int->SV} (h:qQ w b p f) (hb:Below w.heap.size w w'):qQ w' b p f:=by
 obtain ⟨⟨n,h1⟩,h2⟩:=h;exact ⟨⟨n,h1.keep hb⟩,fun a ha=>(h2 a ha).mono hb⟩
theorem qQ.lt {w:World} {b:Nat} {p:Pl} {f:Int->SV} (h:qQ w b p f):b<w.heap.size:=by
 obtain ⟨⟨n,h1⟩,h2⟩:=h;exact h1.lt
def amD (w:World) (p:Pl) (e:Ending) (w':World):Prop:=∃ b f,e=.returned (.map (some b))/\Below w.heap.size w w'/\w.heap.size<=b/\qQ w' b p f
set_option maxRecDepth 100000 in
set_option maxHeartbeats 8000000 in
theorem aeJ (v:Value) (p:Pl) (w:World) (h:dS w v p) (hv:Valid p):Calls Tryz.prog 59 #[v] w (amD w p):=by
 have um:=Lib.hid (fun id W (hW:Below w.heap.size w W)=>QZ v p id W (h.mono hW) hv.short);obtain ⟨_,_,_,al,rfl,hpa,⟨An,cn,rfl,-⟩,⟨⟨Aa,ca,rfl,hm1,hm2,jV⟩,vC⟩,⟨Af,cf,rfl,-⟩⟩:=h;unfold maxLen at hm2;have mM:=Lib.hid jV;have Dj:=Lib.hid vC;have hall:al.length<=256:=by
  have hl:=hv.lim;unfold nN at hl;simp only [Bool.or_eq_false_iff,decide_eq_false_iff_not] at hl;have h2:=hl.2;rw [hpa,List.length_map] at h2;omega
 have uz:=Lib.hid (show ∀ k (hk:k<al.length),al[k].1∈p.ah from fun k hk=>by rw [hpa];exact List.mem_map_of_mem (List.getElem_mem hk));have rM:=Lib.hid (show ∀ a∈p.ah,∃ k,∃ hk:k<al.length,al[k].1=a from fun a ha=>by
  rw [hpa] at ha;obtain ⟨x,hx,rfl⟩:=List.mem_map.1 ha;obtain ⟨k,hk,rfl⟩:=List.mem_iff_getElem.1 hx;exact ⟨k,hk,rfl⟩)
 have zF:=Lib.hid (fun k (hk:k<al.length)=>hv.sound.path (uz.out k hk));have HIb:=Lib.hid (fun k (hk:k<al.length)=>hv.jC (uz.out k hk));have Xy:=Lib.hid (show ∀ j k (hj:j<al.length) (hk:k<al.length),j<k->al[j].1.id≠al[k].1.id from fun j k hj hk hjk e=>by
  have h1:=hv.sound.ah;rw [hpa,List.map_map,List.pairwise_map,List.pairwise_iff_getElem] at h1;have:=h1 j k hj hk hjk
  simp only [Function.comp] at this;omega)
 generalize p.nodes.length=nn at *;generalize p.faces.length=nf at *;clear hpa jV vC hv;have hmm:=@run_makeMap Tryz.prog;go_enter Tryz.func59,Tryz.ntmps59;go_upto_region 2 with fail;obtain ⟨gm,hgm⟩:∃ gm,gm=w.heap.size+1:=⟨_,rfl⟩;obtain ⟨W1,hW⟩:∃ W:World,W=(w.alloc (.cells #[.slice An nn cn,.slice Aa al.length ca,.slice Af nf cf] 26)).alloc (.map #[] 0):=⟨_,rfl⟩;have X1:aj W1 w.heap.size 26 #[.slice An nn cn,.slice Aa al.length ca,.slice Af nf cf]:=by rw [hW];exact (aj.made rfl _ _).alloc _
 have qw:=Lib.hid (show oG W1 gm 0 (fun _=>sv0) by
  have:=oG.made (w.alloc (.cells #[.slice An nn cn,.slice Aa al.length ca,.slice Af nf cf] 26))
  rw [hW,hgm];simpa using this)
 have HB1:=Lib.hid (show Below w.heap.size w W1 by rw [hW];exact bA (bA (bR w) _) _);have hgl:w.heap.size<gm:=by omega
 rw [<- hW,<- hgm];clear hW hgm hmm;have eH:=Lib.hid X1;obtain ⟨aI,aJ,aK,aP,-,-,-⟩:=X1.bC;go_upto_block 0 with fail;clear X1 aI aJ aK aP;go_wp2_with fail;go_loopw [12] (fun i wr=>∃ (k:Nat) (f:Int->SV),k<=al.length/\i=.int .i64 k/\oG wr gm k f/\(∀ j (hj:j<al.length),j<k->Own wr w.heap.size 39 2 iV (aH (f al[j].1.id)) (au p al[j].1))/\aj wr w.heap.size 26 #[.slice An nn cn,.slice Aa al.length ca,.slice Af nf cf]/\Below w.heap.size w wr) (fun i _=>al.length-(intOf i).toNat)
 case atStart => exact ⟨0,fun _=>sv0,Nat.zero_le _,rfl,qw.out,(fun j _ h=>by omega),eH.out,HB1.out⟩
 case round =>
  obtain ⟨k,f,hk,rfl,mp,own,X1,hb⟩:=hrel;obtain ⟨wo,rfl⟩:∃ wo:World,wo=wr:=⟨_,rfl⟩;have HM:=Lib.hid mp;have HO:=Lib.hid own;have HX:=Lib.hid X1;have Hb:=Lib.hid hb;have Oq:=hb.size;have hgo:=mp.lt;clear mp own hb eH qw HB1;by_cases hlt:k<al.length
  ·obtain ⟨b,o,rfl,hlb,c0,c1,c2,c3,c4,c5⟩:=(mM.out.mono Hb.out).ar hlt;obtain ⟨Av,cv,hvv,-⟩:=Dj.out k hlt;rw [hvv] at c3;have hpo:=zF.out k hlt;have hib:=HIb.out k hlt;have hne:=fun j hj hjk=>Xy.out j k hj hlt hjk;have hpt:=um.out al[k].1.id;rw [hpo] at hpt;have HP:=Lib.hid (show ∀ (f:Int->SV) W,(∀ j (hj:j<al.length),j<k->Own W w.heap.size 39 2 iV (aH (f al[j].1.id)) (au p al[j].1))->Own W w.heap.size 39 2 iV (aH (f al[k].1.id)) (au p al[k].1)->∀ j (hj:j<al.length),j<k+1->Own W w.heap.size 39 2 iV (aH (f al[j].1.id)) (au p al[j].1) from fun f W h1 h2 j hj hjk=>by
    by_cases e:j=k
    · subst e;exact h2
    · exact h1 j hj (by omega))
   have vF:=Lib.hid hne;clear hvv hpo hne;generalize al[k].1=a at *;generalize au p a=P at *;obtain ⟨aid,YF,YG,amE,YH,aright⟩:=a;simp only at c0 c1 c2 c3 c4 c5 hib hpt HP vF;generalize amE.length=vn at *;have HPk:=Lib.hid hpt;clear hpt;go_upto_region 5 with fail;obtain ⟨W5,hW⟩:∃ W:World,W=wo.alloc (.cells #[.int .i64 aid,.int .i64 YF,.int .i64 YG,.slice Av vn cv,.int .i64 YH,.int .i64 aright] 50):=⟨_,rfl⟩;have HA:=Lib.hid (show Below wo.heap.size wo W5 by rw [hW];exact bA (bR wo) _);have X5:aj W5 wo.heap.size 50 #[.int .i64 aid,.int .i64 YF,.int .i64 YG,.slice Av vn cv,.int .i64 YH,.int .i64 aright]:=by rw [hW];exact aj.made rfl _ _
   rw [<- hW];clear hW c0 c1 c2 c3 c4 c5 hlb;replace X1:=HX.out.keep HA.out;obtain ⟨dF,dG,dI,jo,yt,Nr,Ns,-,-,-,-,-,-⟩:=X5.kZ
   try clear aI
   try clear aJ
   try clear aK
   try clear aP
   obtain ⟨aI,aJ,aK,aP,-,-,-⟩:=X1.bC;go_wp2_with fail;refine (HPk.out _ (bT Hb.out HA.out)).mono ?_;rintro e w6 ⟨A6,c6,rfl,hb6,YI⟩;simp only [Option.getD_some,Option.isSome_some,if_true] at YI ⊢;have iL:=Lib.hid (bT HA.out hb6);have Ig:=Lib.hid YI;have bK:=Lib.hid (show aj W5 wo.heap.size 50 #[.int .i64 aid,.int .i64 YF,.int .i64 YG,.slice Av vn cv,.int .i64 YH,.int .i64 aright] from X5);have X6:=bK.out.keep hb6;have yD:=Lib.hid (HM.out.keep iL.out);have EZ:=HA.out.size;have SY:=hb6.size;clear hb6 YI X5 dF dG dI jo yt Nr Ns X1 aI aJ aK aP bK;obtain ⟨w7,hr7,hm7,je⟩:=yD.out.upd (by omega) aid (kQ (by omega) (by omega)) ⟨A6,P.length,c6⟩ (amC (x:=⟨A6,P.length,c6⟩) Ig.out);have HM7:=Lib.hid hm7;have nX:=fun (h:gm=w.heap.size)=>(show False by omega);have kF:=Lib.hid (aj.grow (HX.out.keep iL.out) je (fun e=>aeH yD.out (HX.out.keep iL.out) (Option.some.inj e)));have HO7:=Lib.hid (show Own w7 w.heap.size 39 2 iV (aH ⟨A6,P.length,c6⟩) P from Own.grown (Own.iW Ig.out (by omega)) je (fun g hg e=>aeI yD.out Ig.out (hg.trans e)));have Ot:=Lib.hid (show ∀ j (hj:j<al.length),j<k->Own w7 w.heap.size 39 2 iV (aH (f al[j].1.id)) (au p al[j].1) from fun j hj hjk =>
    Own.grown ((HO.out j hj hjk).keep iL.out) je (fun g hg e=>aeI yD.out ((HO.out j hj hjk).keep iL.out) (hg.trans e)))
   have zG:=Lib.hid (bG (bT Hb.out iL.out) je (fun g hg=>by have:=Option.some.inj hg;omega));unfold aH at hr7;clear hm7 je nX;obtain ⟨jk,jl,jm,sK,uY,JC,JD,-,-,-,-,-,-⟩:=X6.kZ;go_wp2_with fail;go_roundw
   case rel => exact ⟨k+1,fun i=>if i=aid then ⟨A6,P.length,c6⟩ else f i,by omega,by go_num,HM7.out,HP.out (fun i=>if i=aid then ⟨A6,P.length,c6⟩ else f i) w7 (fun j hj hjk=>by
    show Own w7 _ _ _ _ (aH (if _=aid then _ else _)) _
    rw [if_neg (vF.out j hj hjk)];exact Ot.out j hj hjk) (by
    show Own w7 _ _ _ _ (aH (if aid=aid then _ else _)) _
    rw [if_pos rfl];exact HO7.out),kF.out,zG.out⟩
   case measure => simp [intOf];omega
  ·obtain rfl:k=al.length:=by omega
   go_wp2_with fail;go_ret;exact ⟨gm,f,rfl,Hb.out,by omega,⟨_,HM.out⟩,fun a ha=>by
    obtain ⟨j,hj,rfl⟩:=rM.out a ha;exact (HO.out j hj hj).sl⟩
theorem YJ (p:Pl) {X:List Int} {k:Nat} (hk:k<X.length):bU p (X.take (k+1))=bU p (X.take k)++gX (gu p X[k]):=by
 unfold bU;rw [List.take_succ_eq_append_getElem hk,List.flatMap_append];simp
theorem YK {P:List Pt} {m:Nat} (hm:m+1<P.length):(gX P).take (m+1)=(gX P).take m++[(P.getD m aB,P.getD (m+1) aB)]:=by
 have h:m<(gX P).length:=by unfold gX;rw [List.length_map,List.length_range];omega
 rw [List.take_succ_eq_append_getElem h];simp [gX]
set_option maxRecDepth 100000 in
set_option maxHeartbeats 8000000 in
theorem amF {σ:Type} (w:World) (gm:Nat) (p:Pl) (f:Int->SV) (hpm:qQ w gm p f) (hv:Valid p) (vc:Value) (X:List Int) (hX:Ints w vc X) (hd:∀ d∈X,d∈aQ p) (g1 g2 g3:Nat)
  (Inv:σ->World->Prop) (upd:σ->Pt×Pt->σ) (hI:∀ s W,Inv s W->Below w.heap.size w W) (hD:∀ s W,Inv s W->Inv s W.drew)
  (hst:∀ s W q,q∈bU p X->Inv s W->Calls Tryz.prog 199 #[aZ q.1,aZ q.2,.pointer (some ⟨g1,0,none⟩),.pointer (some ⟨g2,0,none⟩),.pointer (some ⟨g3,0,none⟩)] W fun e W'=>e=.returned (.tuple #[])/\Inv (upd s q) W'/\Below w.heap.size W W')
  (s:σ) (W:World) (h0:Inv s W) :
  Calls Tryz.prog 79 #[.map (some gm),vc,.func (.func 199) #[] #[.pointer (some ⟨g1,0,none⟩),.pointer (some ⟨g2,0,none⟩),.pointer (some ⟨g3,0,none⟩)]] W fun e W'=>e=.returned (.tuple #[])/\Inv ((bU p X).foldl upd s) W'/\Below w.heap.size W W':=by
 obtain ⟨Ac,cc,rfl,hc1,hc2,mW⟩:=hX;unfold maxLen at hc2;have BD:=Lib.hid mW;have lX:=Lib.hid hpm;have HI:=Lib.hid hI;have dQ:=Lib.hid hst;have uD:=Lib.hid hD;have Ih:=Lib.hid hd;have HV:=Lib.hid hv;have H0:=Lib.hid h0;have kL:=Lib.hid (fun k (hk:k<X.length)=>YJ p hk);obtain ⟨R,hR⟩:∃ R,(bU p X).foldl upd s=R:=⟨_,rfl⟩;rw [hR];have uF:=Lib.hid hR;have yE:=Lib.hid (fun k (hk:k<X.length) q (hq:q∈gX (gu p X[k]))=>show q∈bU p X from List.mem_flatMap.2 ⟨_,List.getElem_mem hk,hq⟩);clear mW hpm hI hst hD hd hv h0 hR;go_enter Tryz.func79,Tryz.ntmps79;go_wp2_with fail;go_loopw [12] (fun i wr=>∃ k:Nat,k<=X.length/\i=.int .i64 k/\Inv ((bU p (X.take k)).foldl upd s) wr/\Below w.heap.size W wr) (fun i _=>X.length-(intOf i).toNat)
 case atStart => exact ⟨0,Nat.zero_le _,rfl,H0.out,Below.refl _ _⟩
 case round =>
  obtain ⟨k,hk,rfl,hinv,hbw⟩:=hrel;obtain ⟨wo,rfl⟩:∃ wo:World,wo=wr:=⟨_,rfl⟩;have nY:=Lib.hid hinv;have iD:=Lib.hid hbw;have Hb:=Lib.hid (HI.out _ _ hinv);clear hinv hbw;by_cases hlt:k<X.length
  ·obtain ⟨b,o,rfl,hlb,c0⟩:=(BD.out.mono Hb.out).int hlt;have hdd:=Ih.out _ (List.getElem_mem hlt);have htk:=kL.out k hlt;have hmem:=yE.out k hlt;generalize X[k]=d at *;obtain ⟨a,ha,hor,hpt⟩:=HV.out.BA hdd;have hid:=HV.out.jC ha;rw [hpt] at htk hmem;obtain ⟨n,hmp⟩:=(lX.out.keep Hb.out).mp;have hlk:=hmp.look a.id (kQ (by omega) (by omega));have pq:=lX.out.rd a ha;have hlen:2<=(au p a).length:=by have:=fJ p a;omega
   have Ou:=Lib.hid htk;have Dk:=Lib.hid hmem;have k1:IntKind.i64.wrap (-d)=-d:=IntWalk.i64_in _ (by omega);have km:max d (-d)=a.id:=by omega
   have wW:=HV.out.Bh ha;have hpl:(au p a).length<=66:=by have:=fJ p a;omega
   generalize f a.id=x at *;obtain ⟨Ap,np,cp⟩:=x;unfold aH at hlk pq;obtain ⟨KD,cp',he,hp1,hp2,vG⟩:=pq;injection he with e1 e2 e3;subst e1 e2 e3;unfold maxLen at hp2;have E5:=Lib.hid vG;clear hmp hdd htk hmem hpt hor ha vG wW;generalize a.id=ai at *;generalize au p a=P at *;clear hid;obtain ⟨s1,hs1⟩:∃ s1,(bU p (X.take k)).foldl upd s=s1:=⟨_,rfl⟩;rw [hs1] at nY;have zH:=Lib.hid hs1;clear hs1;go_upto_block 2 with fail;go_wp2_with fail;go_loopw [9] (fun i wr=>∃ j:Nat,1<=j/\j<=P.length/\i=.int .i64 j/\Inv (((gX P).take (j-1)).foldl upd s1) wr/\Below w.heap.size wo wr) (fun i _=>P.length-(intOf i).toNat)
   case atStart => exact ⟨1,Nat.le_refl _,by omega,rfl,nY.out,Below.refl _ _⟩
   case round =>
    obtain ⟨j,hj1,hj2,rfl,hinv,iH⟩:=hrel;have E8:=Lib.hid hinv;have iR:=Lib.hid iH;have Hb2:=Lib.hid (HI.out _ _ hinv);clear hinv iH;by_cases hlj:j<P.length
    ·obtain ⟨m,rfl⟩:∃ m,j=m+1:=⟨j-1,by omega⟩;have hmp:m<P.length:=by omega
     have hq:=Dk.out (P.getD m aB,P.getD (m+1) aB) (List.mem_map.2 ⟨m,List.mem_range.2 (by omega),rfl⟩);have htk:=YK hlj;have hst:=dQ.out _ wr.drew _ hq (uD.out _ _ E8.out);rw [show m+1-1=m by omega] at hst;have ea:P.getD m aB=P[m]:=by simp only [List.getD_eq_getElem?_getD,List.getElem?_eq_getElem hmp,Option.getD_some]
     have eb:P.getD (m+1) aB=P[m+1]:=by simp only [List.getD_eq_getElem?_getD,List.getElem?_eq_getElem hlj,Option.getD_some]
     rw [ea,eb] at hst htk;obtain ⟨bp,op,mX,hlp,e10,e11⟩:=(E5.out).pt hmp;obtain ⟨bp',op',qx,-,e20,e21⟩:=(E5.out).pt hlj;rw [mX] at qx;injection qx with qx;injection qx with x1 x2 _;subst x1 x2;replace e10:=fG Hb2.out e10;replace e11:=fG Hb2.out e11;replace e20:=fG Hb2.out e20;replace e21:=fG Hb2.out e21;have lU:=Lib.hid htk;generalize P[m]=pa at *;generalize P[m+1]=pb at *;unfold aZ at hst;simp only at hst;have HC:=Lib.hid hst;clear hst htk ea eb hq;subst mX;have k2:IntKind.i64.wrap ((m:Int)+1-1)=m:=by rw [show (m:Int)+1-1=m by omega];exact IntWalk.i64_in _ (by omega)
     have k3:(m:Int)<P.length:=by omega
     have k8:IntKind.i64.wrap (m:Int)=m:=IntWalk.i64_in _ (by omega);have k4:0<=(m:Int):=by omega
     have k5:(m:Int)+1-1=m:=by omega
     have k6:(m:Int)+1<P.length:=by omega
     have k7:0<=(m:Int)+1:=by omega
     rw [show (((m+1:Nat)):Int)=(m:Int)+1 from by omega];go_upto_region 7 with fail;refine bZ (gW (w.heap.size) wr) (.run 10 0 0 (.call 10 2047 (.done))) (by kernel_rfl) (Below.drew (Below.refl _ _)) (by kernel_rfl) (by kernel_rfl) (Nat.le_of_ble_eq_true (by kernel_rfl)) ?_;intro cO QR ak aC hS
     iterate 10
      apply lK;exact ak;exact rfl;exact hS;exact rfl
      · intro _ hqc;go_simp;try rfl
      try simp only [pu]
     refine aT (i:=10) (aG ak rfl) (fun K hK=>?_);have aA:=Lib.hid hS;clear hS;refine aO (aV rfl) ?_;go_simp;refine HC.out.mono ?_;rintro e w4 ⟨rfl,Fa,hb4⟩;have hS:gW w.heap.size wr w4:=Below.trans aA.out hb4;have Ov:=Lib.hid Fa;clear hb4 Fa;clear aA;refine hK.out _ _ hS (fun _=>?_);clear hK K
     try simp only [pu]
     refine bM ?_;refine aC.down _ _ ?_;have hB:Below (w.heap.size) wr _:=hS;clear hS aC ak;have Ox:=Lib.hid (Below.trans iR.out hB);clear hB e10 e11 e20 e21 hlp;go_wp2_with fail;go_roundw
     case rel => exact ⟨m+1+1,by omega,by omega,by go_num,by rw [show m+1+1-1=m+1 by omega,lU.out,List.foldl_append];exact Ov.out,Ox.out⟩
     case measure => simp [intOf];omega
    ·obtain rfl:j=P.length:=by omega
     have Oy:(gX P).length=P.length-1:=by unfold gX;rw [List.length_map,List.length_range]
     have hfin:=E8.out;rw [List.take_of_length_le (by omega),<- zH.out,<- List.foldl_append,<- Ou.out] at hfin;have HF:=Lib.hid hfin;clear hfin Oy;go_wp2_with fail;go_roundw
     case rel => exact ⟨k+1,by omega,by go_num,HF.out,Below.trans iD.out iR.out⟩
     case measure => simp [intOf];omega
  ·obtain rfl:k=X.length:=by omega
   have hfin:=nY.out;rw [List.take_length,uF.out] at hfin;have HF:=Lib.hid hfin;clear hfin;go_wp2_with fail;exact bodyPost_end (v:=.tuple #[]) (results_none rfl _ _ _) rfl ⟨rfl,HF.out,iD.out⟩
theorem amG (p:Pl) (A:List Int) (d:Int) (B:List Int):bU p (A++d::B)=bU p A++(gX (gu p d)++bU p B):=by
 unfold bU;rw [List.flatMap_append,List.flatMap_cons]
theorem aeK (p:Pl) {X:List Int} {k:Nat} (hk:k<X.length):∀ m,m+1<(gu p X[k]).length->∃ r,bU p X=(bU p (X.take k)++(gX (gu p X[k])).take m)++((gu p X[k]).getD m aB,(gu p X[k]).getD (m+1) aB)::r:=fun m hm=>by
 have hl:m<(gX (gu p X[k])).length:=by unfold gX;rw [List.length_map,List.length_range];omega
 have e1:gX (gu p X[k])=(gX (gu p X[k])).take m++(gX (gu p X[k]))[m]::(gX (gu p X[k])).drop (m+1):=by rw [<- List.drop_eq_getElem_cons hl,List.take_append_drop]
 have e2:(gX (gu p X[k]))[m]=((gu p X[k]).getD m aB,(gu p X[k]).getD (m+1) aB):=by simp [gX]
 have e3:X=X.take k++X[k]::X.drop (k+1):=by rw [<- List.drop_eq_getElem_cons hk,List.take_append_drop]
 refine ⟨(gX (gu p X[k])).drop (m+1)++bU p (X.drop (k+1)),?_⟩;have e4:bU p X=bU p (X.take k)++(gX (gu p X[k])++bU p (X.drop (k+1))):=by
  rw [<- amG p,<- e3]
 rw [e4,List.append_assoc,<- List.cons_append,<- e2,<- List.append_assoc ((gX (gu p X[k])).take m),<- e1]
set_option maxRecDepth 100000 in
set_option maxHeartbeats 8000000 in
theorem amH {σ:Type} (w:World) (gm:Nat) (p:Pl) (f:Int->SV) (hpm:qQ w gm p f) (hv:Valid p) (vc:Value) (X:List Int) (hX:Ints w vc X) (hd:∀ d∈X,d∈aQ p) (g1 g2 g3:Nat)
  (Inv:σ->World->Prop) (upd:σ->Pt×Pt->σ) (hI:∀ s W,Inv s W->Below w.heap.size w W) (hD:∀ s W,Inv s W->Inv s W.drew)
  (s:σ) (hst:∀ S0 W q r,bU p X=S0++q::r->Inv (S0.foldl upd s) W->Calls Tryz.prog 202 #[aZ q.1,aZ q.2,.pointer (some ⟨g1,0,none⟩),.pointer (some ⟨g2,0,none⟩),.pointer (some ⟨g3,0,none⟩)] W fun e W'=>e=.returned (.tuple #[])/\Inv (upd (S0.foldl upd s) q) W'/\Below w.heap.size W W')
  (W:World) (h0:Inv s W) :
  Calls Tryz.prog 79 #[.map (some gm),vc,.func (.func 202) #[] #[.pointer (some ⟨g1,0,none⟩),.pointer (some ⟨g2,0,none⟩),.pointer (some ⟨g3,0,none⟩)]] W fun e W'=>e=.returned (.tuple #[])/\Inv ((bU p X).foldl upd s) W'/\Below w.heap.size W W':=by
 obtain ⟨Ac,cc,rfl,hc1,hc2,mW⟩:=hX;unfold maxLen at hc2;have BD:=Lib.hid mW;have lX:=Lib.hid hpm;have HI:=Lib.hid hI;have dQ:=Lib.hid hst;have uD:=Lib.hid hD;have Ih:=Lib.hid hd;have HV:=Lib.hid hv;have H0:=Lib.hid h0;have kL:=Lib.hid (fun k (hk:k<X.length)=>YJ p hk);obtain ⟨R,hR⟩:∃ R,(bU p X).foldl upd s=R:=⟨_,rfl⟩;rw [hR];have uF:=Lib.hid hR;have yE:=Lib.hid (fun k (hk:k<X.length)=>aeK p hk);clear mW hpm hI hst hD hd hv h0 hR;go_enter Tryz.func79,Tryz.ntmps79;go_wp2_with fail;go_loopw [12] (fun i wr=>∃ k:Nat,k<=X.length/\i=.int .i64 k/\Inv ((bU p (X.take k)).foldl upd s) wr/\Below w.heap.size W wr) (fun i _=>X.length-(intOf i).toNat)
 case atStart => exact ⟨0,Nat.zero_le _,rfl,H0.out,Below.refl _ _⟩
 case round =>
  obtain ⟨k,hk,rfl,hinv,hbw⟩:=hrel;obtain ⟨wo,rfl⟩:∃ wo:World,wo=wr:=⟨_,rfl⟩;have nY:=Lib.hid hinv;have iD:=Lib.hid hbw;have Hb:=Lib.hid (HI.out _ _ hinv);clear hinv hbw;by_cases hlt:k<X.length
  ·obtain ⟨b,o,rfl,hlb,c0⟩:=(BD.out.mono Hb.out).int hlt;have hdd:=Ih.out _ (List.getElem_mem hlt);have htk:=kL.out k hlt;have hmem:=yE.out k hlt;generalize X[k]=d at *;obtain ⟨a,ha,hor,hpt⟩:=HV.out.BA hdd;have hid:=HV.out.jC ha;rw [hpt] at htk hmem;obtain ⟨n,hmp⟩:=(lX.out.keep Hb.out).mp;have hlk:=hmp.look a.id (kQ (by omega) (by omega));have pq:=lX.out.rd a ha;have hlen:2<=(au p a).length:=by have:=fJ p a;omega
   have Ou:=Lib.hid htk;have Dk:=Lib.hid hmem;have k1:IntKind.i64.wrap (-d)=-d:=IntWalk.i64_in _ (by omega);have km:max d (-d)=a.id:=by omega
   have wW:=HV.out.Bh ha;have hpl:(au p a).length<=66:=by have:=fJ p a;omega
   generalize f a.id=x at *;obtain ⟨Ap,np,cp⟩:=x;unfold aH at hlk pq;obtain ⟨KD,cp',he,hp1,hp2,vG⟩:=pq;injection he with e1 e2 e3;subst e1 e2 e3;unfold maxLen at hp2;have E5:=Lib.hid vG;clear hmp hdd htk hmem hpt hor ha vG wW;generalize a.id=ai at *;generalize au p a=P at *;clear hid;obtain ⟨s1,hs1⟩:∃ s1,(bU p (X.take k)).foldl upd s=s1:=⟨_,rfl⟩;rw [hs1] at nY;have zH:=Lib.hid hs1;clear hs1;go_upto_block 2 with fail;go_wp2_with fail;go_loopw [9] (fun i wr=>∃ j:Nat,1<=j/\j<=P.length/\i=.int .i64 j/\Inv (((gX P).take (j-1)).foldl upd s1) wr/\Below w.heap.size wo wr) (fun i _=>P.length-(intOf i).toNat)
   case atStart => exact ⟨1,Nat.le_refl _,by omega,rfl,nY.out,Below.refl _ _⟩
   case round =>
    obtain ⟨j,hj1,hj2,rfl,hinv,iH⟩:=hrel;have E8:=Lib.hid hinv;have iR:=Lib.hid iH;have Hb2:=Lib.hid (HI.out _ _ hinv);clear hinv iH;by_cases hlj:j<P.length
    ·obtain ⟨m,rfl⟩:∃ m,j=m+1:=⟨j-1,by omega⟩;have hmp:m<P.length:=by omega
     obtain ⟨r,hq⟩:=Dk.out m hlj;have htk:=YK hlj;have hin:=E8.out;rw [show m+1-1=m by omega] at hin;have hst:=dQ.out _ wr.drew _ r hq (by rw [List.foldl_append,zH.out];exact uD.out _ _ hin);rw [List.foldl_append,zH.out] at hst;have ea:P.getD m aB=P[m]:=by simp only [List.getD_eq_getElem?_getD,List.getElem?_eq_getElem hmp,Option.getD_some]
     have eb:P.getD (m+1) aB=P[m+1]:=by simp only [List.getD_eq_getElem?_getD,List.getElem?_eq_getElem hlj,Option.getD_some]
     rw [ea,eb] at hst htk;obtain ⟨bp,op,mX,hlp,e10,e11⟩:=(E5.out).pt hmp;obtain ⟨bp',op',qx,-,e20,e21⟩:=(E5.out).pt hlj;rw [mX] at qx;injection qx with qx;injection qx with x1 x2 _;subst x1 x2;replace e10:=fG Hb2.out e10;replace e11:=fG Hb2.out e11;replace e20:=fG Hb2.out e20;replace e21:=fG Hb2.out e21;have lU:=Lib.hid htk;generalize P[m]=pa at *;generalize P[m+1]=pb at *;unfold aZ at hst;simp only at hst;have HC:=Lib.hid hst;clear hst htk ea eb hq hin;subst mX;have k2:IntKind.i64.wrap ((m:Int)+1-1)=m:=by rw [show (m:Int)+1-1=m by omega];exact IntWalk.i64_in _ (by omega)
     have k3:(m:Int)<P.length:=by omega
     have k8:IntKind.i64.wrap (m:Int)=m:=IntWalk.i64_in _ (by omega);have k4:0<=(m:Int):=by omega
     have k5:(m:Int)+1-1=m:=by omega
     have k6:(m:Int)+1<P.length:=by omega
     have k7:0<=(m:Int)+1:=by omega
     rw [show (((m+1:Nat)):Int)=(m:Int)+1 from by omega];go_upto_region 7 with fail;refine bZ (gW (w.heap.size) wr) (.run 10 0 0 (.call 10 2047 (.done))) (by kernel_rfl) (Below.drew (Below.refl _ _)) (by kernel_rfl) (by kernel_rfl) (Nat.le_of_ble_eq_true (by kernel_rfl)) ?_;intro cO QR ak aC hS
     iterate 10
      apply lK;exact ak;exact rfl;exact hS;exact rfl
      · intro _ hqc;go_simp;try rfl
      try simp only [pu]
     refine aT (i:=10) (aG ak rfl) (fun K hK=>?_);have aA:=Lib.hid hS;clear hS;refine aO (aV rfl) ?_;go_simp;refine HC.out.mono ?_;rintro e w4 ⟨rfl,Fa,hb4⟩;have hS:gW w.heap.size wr w4:=Below.trans aA.out hb4;have Ov:=Lib.hid Fa;clear hb4 Fa;clear aA;refine hK.out _ _ hS (fun _=>?_);clear hK K
     try simp only [pu]
     refine bM ?_;refine aC.down _ _ ?_;have hB:Below (w.heap.size) wr _:=hS;clear hS aC ak;have Ox:=Lib.hid (Below.trans iR.out hB);clear hB e10 e11 e20 e21 hlp;go_wp2_with fail;go_roundw
     case rel => exact ⟨m+1+1,by omega,by omega,by go_num,by rw [show m+1+1-1=m+1 by omega,lU.out,List.foldl_append];exact Ov.out,Ox.out⟩
     case measure => simp [intOf];omega
    ·obtain rfl:j=P.length:=by omega
     have Oy:(gX P).length=P.length-1:=by unfold gX;rw [List.length_map,List.length_range]
     have hfin:=E8.out;rw [List.take_of_length_le (by omega),<- zH.out,<- List.foldl_append,<- Ou.out] at hfin;have HF:=Lib.hid hfin;clear hfin Oy;go_wp2_with fail;go_roundw
     case rel => exact ⟨k+1,by omega,by go_num,HF.out,Below.trans iD.out iR.out⟩
     case measure => simp [intOf];omega
  ·obtain rfl:k=X.length:=by omega
   have hfin:=nY.out;rw [List.take_length,uF.out] at hfin;have HF:=Lib.hid hfin;clear hfin;go_wp2_with fail;exact bodyPost_end (v:=.tuple #[]) (results_none rfl _ _ _) rfl ⟨rfl,HF.out,iD.out⟩
set_option maxRecDepth 100000 in
set_option maxHeartbeats 8000000 in
theorem amI {σ:Type} (w:World) (gm:Nat) (p:Pl) (f:Int->SV) (hpm:qQ w gm p f) (hv:Valid p) (vc:Value) (X:List Int) (hX:Ints w vc X) (hd:∀ d∈X,d∈aQ p) (g1:Nat)
  (Inv:σ->World->Prop) (upd:σ->Pt×Pt->σ) (hI:∀ s W,Inv s W->Below w.heap.size w W) (hD:∀ s W,Inv s W->Inv s W.drew)
  (s:σ) (hst:∀ S0 W q r,bU p X=S0++q::r->Inv (S0.foldl upd s) W->Calls Tryz.prog 80 #[aZ q.1,aZ q.2,.pointer (some ⟨g1,0,none⟩)] W fun e W'=>e=.returned (.tuple #[])/\Inv (upd (S0.foldl upd s) q) W'/\Below w.heap.size W W')
  (W:World) (h0:Inv s W) :
  Calls Tryz.prog 79 #[.map (some gm),vc,.func (.func 80) #[] #[.pointer (some ⟨g1,0,none⟩)]] W fun e W'=>e=.returned (.tuple #[])/\Inv ((bU p X).foldl upd s) W'/\Below w.heap.size W W':=by
 obtain ⟨Ac,cc,rfl,hc1,hc2,mW⟩:=hX;unfold maxLen at hc2;have BD:=Lib.hid mW;have lX:=Lib.hid hpm;have HI:=Lib.hid hI;have dQ:=Lib.hid hst;have uD:=Lib.hid hD;have Ih:=Lib.hid hd;have HV:=Lib.hid hv;have H0:=Lib.hid h0;have kL:=Lib.hid (fun k (hk:k<X.length)=>YJ p hk);obtain ⟨R,hR⟩:∃ R,(bU p X).foldl upd s=R:=⟨_,rfl⟩;rw [hR];have uF:=Lib.hid hR;have yE:=Lib.hid (fun k (hk:k<X.length)=>aeK p hk);clear mW hpm hI hst hD hd hv h0 hR;go_enter Tryz.func79,Tryz.ntmps79;go_wp2_with fail;go_loopw [12] (fun i wr=>∃ k:Nat,k<=X.length/\i=.int .i64 k/\Inv ((bU p (X.take k)).foldl upd s) wr/\Below w.heap.size W wr) (fun i _=>X.length-(intOf i).toNat)
 case atStart => exact ⟨0,Nat.zero_le _,rfl,H0.out,Below.refl _ _⟩
 case round =>
  obtain ⟨k,hk,rfl,hinv,hbw⟩:=hrel;obtain ⟨wo,rfl⟩:∃ wo:World,wo=wr:=⟨_,rfl⟩;have nY:=Lib.hid hinv;have iD:=Lib.hid hbw;have Hb:=Lib.hid (HI.out _ _ hinv);clear hinv hbw;by_cases hlt:k<X.length
  ·obtain ⟨b,o,rfl,hlb,c0⟩:=(BD.out.mono Hb.out).int hlt;have hdd:=Ih.out _ (List.getElem_mem hlt);have htk:=kL.out k hlt;have hmem:=yE.out k hlt;generalize X[k]=d at *;obtain ⟨a,ha,hor,hpt⟩:=HV.out.BA hdd;have hid:=HV.out.jC ha;rw [hpt] at htk hmem;obtain ⟨n,hmp⟩:=(lX.out.keep Hb.out).mp;have hlk:=hmp.look a.id (kQ (by omega) (by omega));have pq:=lX.out.rd a ha;have hlen:2<=(au p a).length:=by have:=fJ p a;omega
   have Ou:=Lib.hid htk;have Dk:=Lib.hid hmem;have k1:IntKind.i64.wrap (-d)=-d:=IntWalk.i64_in _ (by omega);have km:max d (-d)=a.id:=by omega
   have wW:=HV.out.Bh ha;have hpl:(au p a).length<=66:=by have:=fJ p a;omega
   generalize f a.id=x at *;obtain ⟨Ap,np,cp⟩:=x;unfold aH at hlk pq;obtain ⟨KD,cp',he,hp1,hp2,vG⟩:=pq;injection he with e1 e2 e3;subst e1 e2 e3;unfold maxLen at hp2;have E5:=Lib.hid vG;clear hmp hdd htk hmem hpt hor ha vG wW;generalize a.id=ai at *;generalize au p a=P at *;clear hid;obtain ⟨s1,hs1⟩:∃ s1,(bU p (X.take k)).foldl upd s=s1:=⟨_,rfl⟩;rw [hs1] at nY;have zH:=Lib.hid hs1;clear hs1;go_upto_block 2 with fail;go_wp2_with fail;go_loopw [9] (fun i wr=>∃ j:Nat,1<=j/\j<=P.length/\i=.int .i64 j/\Inv (((gX P).take (j-1)).foldl upd s1) wr/\Below w.heap.size wo wr) (fun i _=>P.length-(intOf i).toNat)
   case atStart => exact ⟨1,Nat.le_refl _,by omega,rfl,nY.out,Below.refl _ _⟩
   case round =>
    obtain ⟨j,hj1,hj2,rfl,hinv,iH⟩:=hrel;have E8:=Lib.hid hinv;have iR:=Lib.hid iH;have Hb2:=Lib.hid (HI.out _ _ hinv);clear hinv iH;by_cases hlj:j<P.length
    ·obtain ⟨m,rfl⟩:∃ m,j=m+1:=⟨j-1,by omega⟩;have hmp:m<P.length:=by omega
     obtain ⟨r,hq⟩:=Dk.out m hlj;have htk:=YK hlj;have hin:=E8.out;rw [show m+1-1=m by omega] at hin;have hst:=dQ.out _ wr.drew _ r hq (by rw [List.foldl_append,zH.out];exact uD.out _ _ hin);rw [List.foldl_append,zH.out] at hst;have ea:P.getD m aB=P[m]:=by simp only [List.getD_eq_getElem?_getD,List.getElem?_eq_getElem hmp,Option.getD_some]
     have eb:P.getD (m+1) aB=P[m+1]:=by simp only [List.getD_eq_getElem?_getD,List.getElem?_eq_getElem hlj,Option.getD_some]
     rw [ea,eb] at hst htk;obtain ⟨bp,op,mX,hlp,e10,e11⟩:=(E5.out).pt hmp;obtain ⟨bp',op',qx,-,e20,e21⟩:=(E5.out).pt hlj;rw [mX] at qx;injection qx with qx;injection qx with x1 x2 _;subst x1 x2;replace e10:=fG Hb2.out e10;replace e11:=fG Hb2.out e11;replace e20:=fG Hb2.out e20;replace e21:=fG Hb2.out e21;have lU:=Lib.hid htk;generalize P[m]=pa at *;generalize P[m+1]=pb at *;unfold aZ at hst;simp only at hst;have HC:=Lib.hid hst;clear hst htk ea eb hq hin;subst mX;have k2:IntKind.i64.wrap ((m:Int)+1-1)=m:=by rw [show (m:Int)+1-1=m by omega];exact IntWalk.i64_in _ (by omega)
     have k3:(m:Int)<P.length:=by omega
     have k8:IntKind.i64.wrap (m:Int)=m:=IntWalk.i64_in _ (by omega);have k4:0<=(m:Int):=by omega
     have k5:(m:Int)+1-1=m:=by omega
     have k6:(m:Int)+1<P.length:=by omega
     have k7:0<=(m:Int)+1:=by omega
     rw [show (((m+1:Nat)):Int)=(m:Int)+1 from by omega];go_upto_region 7 with fail;refine bZ (gW (w.heap.size) wr) (.run 10 0 0 (.call 10 2047 (.done))) (by kernel_rfl) (Below.drew (Below.refl _ _)) (by kernel_rfl) (by kernel_rfl) (Nat.le_of_ble_eq_true (by kernel_rfl)) ?_;intro cO QR ak aC hS
     iterate 10
      apply lK;exact ak;exact rfl;exact hS;exact rfl
      · intro _ hqc;go_simp;try rfl
      try simp only [pu]
     refine aT (i:=10) (aG ak rfl) (fun K hK=>?_);have aA:=Lib.hid hS;clear hS;refine aO (aV rfl) ?_;go_simp;refine HC.out.mono ?_;rintro e w4 ⟨rfl,Fa,hb4⟩;have hS:gW w.heap.size wr w4:=Below.trans aA.out hb4;have Ov:=Lib.hid Fa;clear hb4 Fa;clear aA;refine hK.out _ _ hS (fun _=>?_);clear hK K
     try simp only [pu]
     refine bM ?_;refine aC.down _ _ ?_;have hB:Below (w.heap.size) wr _:=hS;clear hS aC ak;have Ox:=Lib.hid (Below.trans iR.out hB);clear hB e10 e11 e20 e21 hlp;go_wp2_with fail;go_roundw
     case rel => exact ⟨m+1+1,by omega,by omega,by go_num,by rw [show m+1+1-1=m+1 by omega,lU.out,List.foldl_append];exact Ov.out,Ox.out⟩
     case measure => simp [intOf];omega
    ·obtain rfl:j=P.length:=by omega
     have Oy:(gX P).length=P.length-1:=by unfold gX;rw [List.length_map,List.length_range]
     have hfin:=E8.out;rw [List.take_of_length_le (by omega),<- zH.out,<- List.foldl_append,<- Ou.out] at hfin;have HF:=Lib.hid hfin;clear hfin Oy;go_wp2_with fail;go_roundw
     case rel => exact ⟨k+1,by omega,by go_num,HF.out,Below.trans iD.out iR.out⟩
     case measure => simp [intOf];omega
  ·obtain rfl:k=X.length:=by omega
   have hfin:=nY.out;rw [List.take_length,uF.out] at hfin;have HF:=Lib.hid hfin;clear hfin;go_wp2_with fail;exact bodyPost_end (v:=.tuple #[]) (results_none rfl _ _ _) rfl ⟨rfl,HF.out,iD.out⟩
end Go.Proofs.YtialfdomhoojiaaGreat
