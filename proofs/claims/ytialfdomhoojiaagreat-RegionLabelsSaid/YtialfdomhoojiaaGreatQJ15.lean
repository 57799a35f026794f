import Derived.Test.YtialfdomhoojiaaGreatQJ14
import Derived.Test.YtialfdomhoojiaaGreatLaySortIn
set_option linter.unusedSimpArgs false
set_option linter.unusedVariables false
set_option maxRecDepth 100000
set_option maxHeartbeats 8000000
namespace Go.Proofs.YtialfdomhoojiaaGreat
open Go.RowKit
set_option linter.unusedSectionVars false
theorem yF {a b u:Pt} (hab:hY a<hY b) (h:J5 a b u):hY a<=hY u/\hY u<=hY b:=by
 obtain ⟨h0,x1,x2,y1,y2⟩:=h;have k1:(hY u-hY a)*(b.y-a.y)=(u.y-a.y)*(hY b-hY a):=by unfold tw at h0;unfold hY;grind
 have k2:(hY u-hY a)*(b.x-a.x)=(u.x-a.x)*(hY b-hY a):=by unfold tw at h0;unfold hY;grind
 have hN:0<hY b-hY a:=by omega
 have hd:hY b-hY a=8388608*(b.y-a.y)+(b.x-a.x):=by unfold hY;omega
 have hu:hY u-hY a=8388608*(u.y-a.y)+(u.x-a.x):=by unfold hY;omega
 have hv:hY b-hY u=8388608*(b.y-u.y)+(b.x-u.x):=by unfold hY;omega
 generalize hY b-hY a=N at *;have s:∀ {x y:Int},0<x->0<y->0<x*y:=fun h1 h2=>Jg h1 h2;have s2:∀ {x y:Int},x<0->0<y->x*y<0:=fun h1 h2=>VQ h1 h2;have s3:∀ {x y:Int},0<x->y<0->x*y<0:=fun h1 h2=>XK h1 h2;have s4:∀ {x y:Int},x<0->y<0->0<x*y:=fun h1 h2=>rW h1 h2;have nn:∀ {x y:Int},0<=x->0<=y->0<=x*y:=fun h1 h2=>KR h1 h2;have np:∀ {x y:Int},x<=0->0<=y->x*y<=0:=fun h1 h2=>aAC h1 h2;have k1':(hY b-hY u)*(b.y-a.y)=(b.y-u.y)*N:=by
  have:(hY b-hY u)+(hY u-hY a)=N:=by omega
  have e:(hY b-hY u)*(b.y-a.y)=N*(b.y-a.y)-(hY u-hY a)*(b.y-a.y):=by rw [<- this];grind
  rw [e,k1];grind
 have k2':(hY b-hY u)*(b.x-a.x)=(b.x-u.x)*N:=by
  have:(hY b-hY u)+(hY u-hY a)=N:=by omega
  have e:(hY b-hY u)*(b.x-a.x)=N*(b.x-a.x)-(hY u-hY a)*(b.x-a.x):=by rw [<- this];grind
  rw [e,k2];grind
 have key:∀ {m d q:Int},m*d=q*N->(0<d->0<=q)->(d<0->q<=0)->d≠0->0<=m:=by
  intro m d q e h1 h2 hd0;apply NV;intro hm;rcases Int.lt_or_gt_of_ne hd0 with g | g
  ·have:=s4 (show m<0 by omega) g
   have:=np (h2 g) (show 0<=N by omega)
   omega
  ·have:=s2 (show m<0 by omega) g
   have:=nn (h1 g) (show 0<=N by omega)
   omega
 by_cases hy:b.y-a.y=0
 ·have hx:b.x-a.x≠0:=by omega
  have m1:=key k2 AB AB hx;have m2:=key k2' AB AB hx;omega
 ·have m1:=key k1 AB AB hy;have m2:=key k1' AB AB hy;omega
theorem ajH {u v a b s:Pt} (hne:u≠v) (ha:tw u v a=0) (hb:tw u v b=0) (hs:tw u v s=0):tw a b s=0:=by
 have h0:=Pt.aBG hne;unfold tw at *;exact parallel h0 (by grind) (by grind)
theorem ajI {a b:Pt} (na:C9 a=true) (nb:C9 b=true) (hne:a≠b):∃ s t,((a=s/\b=t)\/(a=t/\b=s))/\hY s<hY t/\C9 s=true/\C9 t=true:=by
 rcases Ik (hY a) (hY b) with c | c | c
 · exact ⟨a,b,.inl ⟨rfl,rfl⟩,c,na,nb⟩
 · exact absurd (MS na nb c) hne
 · exact ⟨b,a,.inr ⟨rfl,rfl⟩,c,nb,na⟩
theorem yG {a b v:Pt} (h:J5 a b v):J5 b a v:=by
 obtain ⟨h0,h1⟩:=h;refine ⟨?_,by rw [rZ,ru b.x,rZ b.y,ru b.y];exact h1⟩
 have:tw b a v=-tw a b v:=by unfold tw;grind
 omega
theorem ajJ {a b c d u v:Pt} (na:C9 a=true) (nb:C9 b=true) (nc:C9 c=true) (nd:C9 d=true) (nu:C9 u=true) (nv:C9 v=true) (hab:a≠b) (hcd:c≠d) (huv:u≠v)
  (h1:J5 a b u) (h2:J5 a b v) (h3:J5 c d u) (h4:J5 c d v):ND a b c d=2:=by
 obtain ⟨s,t,e1,l1,-,-⟩:=ajI na nb hab;obtain ⟨x,y,e2,l2,-,-⟩:=ajI nc nd hcd;have hh:hY u≠hY v:=fun e=>huv (MS nu nv e);have h1':J5 s t u:=by rcases e1 with ⟨rfl,rfl⟩ | ⟨rfl,rfl⟩;exact h1;exact yG h1
 have h2':J5 s t v:=by rcases e1 with ⟨rfl,rfl⟩ | ⟨rfl,rfl⟩;exact h2;exact yG h2
 have h3':J5 x y u:=by rcases e2 with ⟨rfl,rfl⟩ | ⟨rfl,rfl⟩;exact h3;exact yG h3
 have h4':J5 x y v:=by rcases e2 with ⟨rfl,rfl⟩ | ⟨rfl,rfl⟩;exact h4;exact yG h4
 have q1:=yF l1 h1';have q2:=yF l1 h2';have q3:=yF l2 h3';have q4:=yF l2 h4';have hst:s≠t:=fun e=>by rw [e] at l1;omega
 have hxy:x≠y:=fun e=>by rw [e] at l2;omega
 obtain ⟨p1,p2⟩:=oH hst h1'.1 h2'.1;obtain ⟨p3,p4⟩:=oH hxy h3'.1 h4'.1;exact acw e1 e2 l1 l2 (ajH huv p1 p2 p3) (ajH huv p1 p2 p4) AB AB
theorem aqt {a b c d v:Pt} (na:C9 a=true) (nb:C9 b=true) (nc:C9 c=true) (nd:C9 d=true) (nv:C9 v=true) (hab:a≠b) (hcd:c≠d) (h1:J5 a b v) (h2:J5 c d v):ND a b c d≠0:=by
 intro h0;have lin:∀ {a b c d:Pt},C9 c=true->C9 d=true->c≠d->tw a b v=0->J5 c d v->(tw a b c<=0/\0<=tw a b d)\/(0<=tw a b c/\tw a b d<=0):=by
  intro a b c d nc nd hcd e ho;have go:∀ {c d:Pt},hY c<hY d->J5 c d v->(tw a b c<=0/\0<=tw a b d)\/(0<=tw a b c/\tw a b d<=0):=by
   intro c d hlt ho;have hb:=yF hlt ho;have k:tw a b c*(hY d-hY v)+tw a b d*(hY v-hY c)=0:=by
    have:=ho.1
    have k0:tw a b c*(hY d-hY v)+tw a b d*(hY v-hY c)=tw a b v*(hY d-hY c)-(hY b-hY a)*tw c d v:=by unfold tw hY;grind
    rw [k0,e,this];simp
   have p1:∀ {x y:Int},0<x->0<=y->0<=x*y:=fun h1 h2=>KR AB h2;have p2:∀ {x y:Int},x<0->0<=y->x*y<=0:=fun h1 h2=>aAC AB h2;have p3:∀ {x y:Int},0<x->0<y->0<x*y:=fun h1 h2=>Jg h1 h2;have p4:∀ {x y:Int},x<0->0<y->x*y<0:=fun h1 h2=>VQ h1 h2;generalize tw a b c=u1 at *;generalize tw a b d=u2 at *;have hA:0<=hY d-hY v:=by omega
   have hB:0<=hY v-hY c:=by omega
   have hAB:0<hY d-hY v\/0<hY v-hY c:=by omega
   generalize hY d-hY v=A at *;generalize hY v-hY c=B at *;clear hb ho e hlt;rcases Ik u1 0 with g1 | g1 | g1
   ·rcases Ik u2 0 with g2 | g2 | g2
    ·exfalso;have:=p2 g1 hA;have:=p2 g2 hB
     rcases hAB with q | q
     · have:=p4 g1 q;omega
     · have:=p4 g2 q;omega
    · omega
    · omega
   · omega
   ·rcases Ik u2 0 with g2 | g2 | g2
    · omega
    · omega
    ·exfalso;have:=p1 g1 hA;have:=p1 g2 hB
     rcases hAB with q | q
     · have:=p3 g1 q;omega
     · have:=p3 g2 q;omega
  rcases Ik (hY c) (hY d) with g | g | g
  · exact go g ho
  · exact absurd (MS nc nd g) hcd
  · have:=go g (yG ho);omega
 have l1:=lin (a:=a) (b:=b) nc nd hcd h1.1 h2;have l2:=lin (a:=c) (b:=d) na nb hab h2.1 h1;have e:=vY a b c d;by_cases hp:tw a b d-tw a b c=0
 ·have z1:tw a b c=0/\tw a b d=0:=by omega
  obtain ⟨z3,z4⟩:=oH hab z1.1 z1.2;unfold ND at h0;rw [AX (fun e=>hab e.1),AZ (by rw [acg];omega),AZ ⟨z1.1,z1.2,z3,z4⟩,VU] at h0;have b1:=(acE a b v hab h1.1).1 ⟨h1.2.1,h1.2.2.1,h1.2.2.2.1,h1.2.2.2.2⟩;have b2:=(acE c d v hcd h2.1).1 ⟨h2.2.1,h2.2.2.1,h2.2.2.2.1,h2.2.2.2.2⟩;have g1:CP v (hi (lo a b) (lo c d))=false:=agV b1.1 b2.1;have g2:CP (lo (hi a b) (hi c d)) v=false:=agW b1.2 b2.2;split at h0
  · cases h0
  ·rename_i hne;split at h0
   · cases h0
   ·rename_i hb;rw [JK] at hb;apply hne;rw [<- JK,MN] at g1 g2 hb;rw [Pt.ext_iff'];omega
 ·have NM:=ahf hab h0 hp;omega
theorem aqu {D:Int} (hD:0<D) {a b v:Pt} (na:C9 a=true) (nb:C9 b=true) (nv:C9 v=true) (hne:a≠b) (hd:hY b-hY a∣D) (hav:a≠v) (hbv:b≠v) (hoff:¬ J5 a b v) :
  (if 2*D*v.x<xE D a b (2*hY v) then Em (2*hY v) a b else 0)=NK a b v:=by
 have key:∀ {a b:Pt},hY a<hY b->hY b-hY a∣D->hY a≠hY v->hY b≠hY v->(if 2*D*v.x<xE D a b (2*hY v) then Em (2*hY v) a b else 0)=NK a b v:=by
  intro a b hab hd ha hb;have hx:=aj3 hD (v:=v) hab hd;simp only [hx];unfold NK Em;rw [AX (show ¬ (hY b<hY v/\hY v<hY a/\0<tw b a v) by omega)];by_cases c:0<tw a b v
  ·rw [AZ c];by_cases c1:hY a<hY v
   ·by_cases c2:hY v<hY b
    · rw [AZ AB,AX AB,AZ ⟨c1,c2,c⟩];rfl
    · rw [AX AB,AX AB,AX (fun e=>c2 e.2.1)];rfl
   · rw [AZ AB,AZ AB,AX (fun e=>c1 e.1)];rfl
  · rw [AX c,AX (fun e=>c e.2.2)]
 have ha:hY a≠hY v:=fun e=>hav (MS na nv e);have hb:hY b≠hY v:=fun e=>hbv (MS nb nv e);rcases Ik (hY a) (hY b) with c | c | c
 · exact key c hd ha hb
 · exact absurd (MS na nb c) hne
 ·have:=key c (by rw [show hY a-hY b=-(hY b-hY a) by omega];exact sN.2 hd) hb ha
  rw [aI,acf] at this;have e2:Em (2*hY v) b a=-Em (2*hY v) a b:=by unfold Em;omega
  rw [e2] at this;split at this<;>rename_i g<;>first | (rw [AZ g];omega) | (rw [AX g];omega)
section
variable {p:Pl} (h:Valid p)
include h
theorem Valid.aqv {z:Int->Int} (hz:Fz p z) {v:Pt} (nv:C9 v=true) (hoff:Ur p z v):QV p z v=Dn p z (fun a b=>NK a b v):=by
 obtain ⟨D,hD,hd⟩:=h.aCg;rw [h.aj6 hz hD hd nv hoff];refine (oI p z D (2*hY v) (fun x s=>if 2*D*v.x<x then s else 0) (fun x c s=>by split<;>simp)).trans ?_;exact aBB fun a ha hza k hk=>aqu hD (h.Dj ha (k:=k) AB) (h.Dj ha hk) nv (h.distinct ha hk).1 (hd a ha k hk) (h.aJ hoff ha hza (k:=k) AB) (h.aJ hoff ha hza hk) (hoff a ha hza k hk)
theorem Valid.ajK {z:Int->Int} (hz:Fz p z) {v:Pt} (nv:C9 v=true) (hoff:Ur p z v) (u:Pt):LM p z v u=QV p z v:=by
 rw [h.aqv hz nv hoff];unfold LM;refine aBB fun a ha hza k hk=>?_;have e1:=h.aJ hoff ha hza (k:=k) AB;have e2:=h.aJ hoff ha hza hk;unfold Pe;rw [AX (fun e=>e1 e.1),AX (fun e=>e2 e.1)];omega
theorem Valid.acZ {z:Int->Int} (hz:Fz p z) {a:Ar} (ha:a∈p.AP) {k:Nat} (hk:k<(AV p a).length) (hoff:Ur p z ((AV p a).getD k AY)) :
  QV p z ((AV p a).getD k AY)=Hz p z a.id/\Hz p z (-a.id)=Hz p z a.id:=by
 have hl:=Ey p a;have nv:=h.Dj ha hk;have hp:=h.Xo hz ha;have h0:z a.id=0:=NV fun hne=>h.aJ hoff ha hne hk rfl;rw [h0] at hp;refine ⟨?_,AB⟩;by_cases h1:k+1<(AV p a).length
 ·have:=(h.yA hz ha h1).1
  rw [h.ajK hz nv hoff] at this;omega
 ·obtain ⟨m,rfl⟩:∃ m,k=m+1:=⟨k-1,AB⟩;have:=(h.yA hz ha (m:=m) hk).2
  rw [h.ajK hz nv hoff] at this;omega
theorem Valid.aqw {a c:Ar} (ha:a∈p.AP) (hc:c∈p.AP) (hne:a≠c) {k m:Nat} (hk:k+1<(AV p a).length) (hm:m+1<(AV p c).length) {v:Pt} (nv:C9 v=true)
  (h1:J5 ((AV p a).getD k AY) ((AV p a).getD (k+1) AY) v) (h2:J5 ((AV p c).getD m AY) ((AV p c).getD (m+1) AY) v):∃ n∈p.nodes,n.pt=v/\(a.fr=n.id\/a.dst=n.id)/\(c.fr=n.id\/c.dst=n.id):=by
 have go:∀ {a c:Ar} {k m:Nat},a∈p.AP->c∈p.AP->a≠c->k+1<(AV p a).length->m+1<(AV p c).length->J5 ((AV p a).getD k AY) ((AV p a).getD (k+1) AY) v->J5 ((AV p c).getD m AY) ((AV p c).getD (m+1) AY) v ->
   PG p (DY p a k) (DY p c m)=true->∃ n∈p.nodes,n.pt=v/\(a.fr=n.id\/a.dst=n.id)/\(c.fr=n.id\/c.dst=n.id):=by
  intro a c k m ha hc hne hk hm h1 h2 hj;have n1:=h.Dj ha (k:=k) AB;have n2:=h.Dj ha hk;have n3:=h.Dj hc (k:=m) AB;have n4:=h.Dj hc hm;have d1:=(h.distinct ha hk).1;have d2:=(h.distinct hc hm).1;have hm0:=aqt n1 n2 n3 n4 nv d1 d2 h1 h2;unfold PG at hj;split at hj
  ·obtain ⟨x,hx,hat⟩:=OC.1 hj;unfold PE DY at hat;simp only [Ei] at hat;obtain ⟨⟨⟨e1,e2⟩,o1⟩,o2⟩:=hat;have nx:=h.wH hx;rw [<- acC] at o1 o2;have o1:=(oJ n1 n2 nx).1 o1;have o2:=(oJ n3 n4 nx).1 o2;have ends:∀ {b:Ar},VW b x.id=true->b.fr=x.id\/b.dst=x.id:=fun he=>by
    unfold VW at he;simpa using he
   refine ⟨x,hx,?_,ends e1,ends e2⟩;apply NV;intro hxv;have r1:=ajJ n1 n2 n3 n4 nx nv d1 d2 hxv o1 h1 o2 h2;have r2:=ajJ n3 n4 n1 n2 nx nv d2 d1 hxv o2 h2 o1 h1;exact h.ahX ha hc hk hm (fun e=>hne e.1) ⟨r1,r2⟩
  ·rw [beq_iff_eq] at hj;unfold Fq DY at hj;rw [AZ (Yk n1 n2 n3 n4)] at hj;exact absurd hj hm0
 have hpw:=h.Ri.2.2;obtain ⟨i,hi,rfl⟩:=EF.1 ha;obtain ⟨j,hj,rfl⟩:=EF.1 hc;rw [Fa] at hpw;rcases PN i j with hij | hij | hij
 · exact go ha hc hne hk hm h1 h2 (hpw i j hi hj hij k hk m hm)
 · subst hij;exact absurd rfl hne
 ·obtain ⟨n,h1,h2,h3,h4⟩:=go hc ha (fun e=>hne e.symm) hm hk h2 h1 (hpw j i hj hi hij m hm k hk);exact ⟨n,h1,h2,h4,h3⟩
theorem Valid.ajL {X:List Int} (hX:X∈Ce p) {r:Int} (hr:r∈X) {a:Ar} (ha:a∈p.AP) (hs:Cb p p.AP.length a.id≠Cb p p.AP.length r) {k:Nat} (hk:k<(AV p a).length) :
  ∀ q∈DV p X,Ea q.1 q.2 ((AV p a).getD k AY)=false:=by
 intro q hq;obtain ⟨c,hc,hcm,m,hm,rfl⟩:=h.aCj (h.Gq hX).2 hq;rw [<- JK];intro ho;have hl:=Ey p a;have hcs:Cb p p.AP.length c.id=Cb p p.AP.length r:=by
  have hmc:c.id∈Bh p:=Iq.2 ⟨c,hc,.inl rfl⟩;rcases hcm with g | g
  · exact h.Xq hX g hr
  · rw [<- h.Vr hmc];exact h.Xq hX g hr
 have hne:a≠c:=by rintro rfl;exact hs hcs
 obtain ⟨j,hj,hon⟩:∃ j,j+1<(AV p a).length/\J5 ((AV p a).getD j AY) ((AV p a).getD (j+1) AY) ((AV p a).getD k AY):=by
  by_cases h1:k+1<(AV p a).length
  · exact ⟨k,h1,YR _ _,AB⟩
  ·obtain ⟨j,rfl⟩:∃ j,k=j+1:=⟨k-1,AB⟩;exact ⟨j,hk,YS _ _,AB⟩
 obtain ⟨n,hn,-,ea,ec⟩:=h.aqw ha hc hne hj hm (h.Dj ha hk) hon ((oJ (h.Dj hc AB) (h.Dj hc hm) (h.Dj ha hk)).1 ho);have ajM:∀ {a:Ar},a∈p.AP->(a.fr=n.id\/a.dst=n.id)->∃ d∈DL p n.id,Cb p p.AP.length d=Cb p p.AP.length a.id:=by
  intro a ha hor;have hma:a.id∈Bh p:=Iq.2 ⟨a,ha,.inl rfl⟩;rcases hor with e | e
  · exact ⟨a.id,(h.NI hn).symm.subset (Rl.2 ⟨a,ha,.inl ⟨rfl,e⟩⟩),rfl⟩
  · exact ⟨-a.id,(h.NI hn).symm.subset (Rl.2 ⟨a,ha,.inr ⟨rfl,e⟩⟩),h.Vr hma⟩
 obtain ⟨d1,m1,q1⟩:=ajM ha ea;obtain ⟨d2,m2,q2⟩:=ajM hc ec;exact hs (by rw [<- q1,h.acu hn m1 m2,q2,hcs])
end
set_option linter.unusedSectionVars false
def BP (p:Pl):List (List Int):=(Ce p).filter (fun X=>decide (0<FB p X))
def Js (p:Pl):List (List Int):=(Ce p).filter (fun X=>!decide (0<FB p X))
def Ie (p:Pl) (v:Pt):Option (List Int):=Jm (fun X=>encS p X v) (FB p) (BP p)
theorem Ku {p:Pl} {X:List Int}:X∈BP p↔X∈Ce p/\0<FB p X:=by unfold BP;rw [QE,EO]
theorem Vt {p:Pl} {X:List Int}:X∈Js p↔X∈Ce p/\¬ 0<FB p X:=by unfold Js;rw [QE];simp
section
variable {p:Pl} (h:Valid p)
include h
theorem Valid.aqx {l:List (List Int)} (hl:(BP p).Perm l) {v:Pt} (nv:C9 v=true):Jm (fun X=>encS p X v) (FB p) l=Ie p v:=by
 refine (aqs _ _ hl fun X hX Y hY eX eY e=>?_).symm;rw [Ku] at hX hY;exact h.aqr hX.1 hY.1 hX.2 hY.2 nv eX eY e
theorem Valid.ajN {X:List Int} (hX:X∈BP p) {r:Int} (hr:r∈X) {a:Ar} (ha:a∈p.AP) (hs:Cb p p.AP.length a.id=Cb p p.AP.length r) {k:Nat} (hk:k<(AV p a).length):encS p X ((AV p a).getD k AY)=false:=by
 rw [Ku] at hX;have nv:=h.Dj ha hk;have hma:a.id∈Bh p:=Iq.2 ⟨a,ha,.inl rfl⟩;have hl:=Ey p a;rw [<- JK];intro he;obtain ⟨g1,g2⟩:=(h.yD hX.1 hX.2 nv).1 he;have hoff:=h.yE nv g1;obtain ⟨w1,w2⟩:=h.acZ (h.Vs hX.1) ha hk hoff;rw [h.Z8 hX.1 hX.2 hr hma hs] at w1;rw [w1] at g2;have hin:a.id∈X:=NV fun c=>by rw [AX c] at g2;cases g2
 obtain ⟨j,hj,hon⟩:∃ j,j+1<(AV p a).length/\J5 ((AV p a).getD j AY) ((AV p a).getD (j+1) AY) ((AV p a).getD k AY):=by
  by_cases h1:k+1<(AV p a).length
  · exact ⟨k,h1,YR _ _,AB⟩
  ·obtain ⟨j,rfl⟩:∃ j,k=j+1:=⟨k-1,AB⟩;exact ⟨j,hk,YS _ _,AB⟩
 have:=g1 _ (h.acV ha (.inl hin) hj)
 rw [(oJ (h.Dj ha AB) (h.Dj ha hj) nv).2 hon] at this
 cases this
theorem Valid.aqy {X:List Int} (hX:X∈BP p) {a b:Ar} (ha:a∈p.AP) (hb:b∈p.AP) (hs:Cb p p.AP.length a.id=Cb p p.AP.length b.id) {k m:Nat} (hk:k<(AV p a).length) (hm:m<(AV p b).length) :
  encS p X ((AV p a).getD k AY)=encS p X ((AV p b).getD m AY):=by
 have hX':=Ku.1 hX;obtain ⟨r,-,-,-,hr⟩:=h.Ph hX'.1;by_cases hc:Cb p p.AP.length a.id=Cb p p.AP.length r
 · rw [h.ajN hX hr ha hc hk,h.ajN hX hr hb (by rw [<- hs];exact hc) hm]
 ·have hma:a.id∈Bh p:=Iq.2 ⟨a,ha,.inl rfl⟩;have hmb:b.id∈Bh p:=Iq.2 ⟨b,hb,.inl rfl⟩;have o1:=h.ajL hX'.1 hr ha hc hk;have o2:=h.ajL hX'.1 hr hb (by rw [<- hs];exact hc) hm;have w1:=(h.acZ (h.Vs hX'.1) ha hk (h.yE (h.Dj ha hk) o1)).1;have w2:=(h.acZ (h.Vs hX'.1) hb hm (h.yE (h.Dj hb hm) o2)).1;have e:=(h.acT hX'.1 hX'.2 hr hma hc).2 _ hmb hs.symm;rw [MH,h.yD hX'.1 hX'.2 (h.Dj ha hk),h.yD hX'.1 hX'.2 (h.Dj hb hm),w1,w2,e];exact ⟨fun g=>⟨o2,g.2⟩,fun g=>⟨o1,g.2⟩⟩
theorem Valid.aqO {a b:Ar} (ha:a∈p.AP) (hb:b∈p.AP) (hs:Cb p p.AP.length a.id=Cb p p.AP.length b.id) {k m:Nat} (hk:k<(AV p a).length) (hm:m<(AV p b).length) :
  Ie p ((AV p a).getD k AY)=Ie p ((AV p b).getD m AY):=by
 unfold Ie Jm;have:∀ (l:List (List Int)) (o:Option (List Int)),(∀ X∈l,X∈BP p)->l.foldl (RF (fun X=>encS p X ((AV p a).getD k AY)) (FB p)) o=l.foldl (RF (fun X=>encS p X ((AV p b).getD m AY)) (FB p)) o:=by
  intro l
  induction l with
  | nil=>intro o _;rfl
  | cons X l ih =>
   intro o hl;rw [UD,UD,ih _ (fun Y hY=>hl Y (I7 _ hY))];congr 1;have e:=h.aqy (hl X Eu) ha hb hs hk hm;simp only [RF,e]
 exact this _ _ fun X hX=>hX
end
def RG (p:Pl) (c:List Int):Pt:=(G5 p (c.headD 0)).getD 0 AY
def Vu (p:Pl) (b:Option (List Int)):List (List Int):=(Js p).filter (fun c=>decide (Ie p (RG p c)=b))
def aN (p:Pl) (b:Option (List Int)):List Int:=(p.nodes.filter (fun n=>decide (Na p.AP n.id=0/\Ie p n.pt=b))).map (·.id)
def NR (p:Pl) (b:Option (List Int)):Int:=match b with
 | none=>0
 | some X=>IK p (X.headD 0)
def GR (p:Pl) (b:Option (List Int)):List (List Int):=b.getD []::Vu p b
structure aO (p:Pl):Prop where
 some:∀ X∈BP p,IK p (X.headD 0)≠0
 differ:((BP p).map (fun X=>IK p (X.headD 0))).Nodup
 sides:∀ b,(b=none\/∃ X∈BP p,b=Option.some X)->∀ c∈GR p b,∀ d∈c,IK p d=NR p b
 all:(BP p).length=p.faces.length
theorem ajO {w:World} {gm n:Nat} {f:Int->SV} (h:NH w gm n f) {g:Nat} {t:TypeId} {cs:Array Value} (hg:AO w g t cs):g≠gm:=by
 rintro rfl;obtain ⟨D,h1,-⟩:=h;obtain ⟨es,clock,h2,-⟩:=h1;unfold AO at hg;rw [hg] at h2
 cases h2
theorem ajP {w:World} {gm n:Nat} {f:Int->SV} (h:NH w gm n f) {base:Nat} {e:TypeId} {size:Nat} {α:Type} {fe:α->List Value} {v:Value} {l:List α} (ho:Own w base e size fe v l):v.ownBlock≠some gm:=by
 rcases ho.2 with ⟨rfl,_⟩ | ⟨g,cap,cur,rfl,_,hh,_⟩
 · simp [Value.ownBlock]
 ·intro e';exact ajO h (cs:=cur) (g:=g) hh sZ
theorem aqP {w:World} {base:Nat} {e:TypeId} {size:Nat} {α:Type} {fe:α->List Value} {x:SV} {l:List α} (ho:Own w base e size fe (BK x) l):x.ok:=by
 obtain ⟨a,n,c⟩:=x;rcases ho.2 with ⟨h,_⟩ | ⟨g,cap,cur,h,_⟩
 · unfold BK at h;injection h with h1;exact .inl h1
 · unfold BK at h;injection h with h1;exact .inr ⟨g,0,h1⟩
structure Qe (w:World) (b:Nat) (p:Pl) (f:Int->SV):Prop where
 mp:∃ n,NH w b n f
 rd:∀ a∈p.AP,Dv w (BK (f a.id)) (AV p a)
theorem Qe.keep {w w':World} {b:Nat} {p:Pl} {f:Int->SV} (h:Qe w b p f) (hb:AU w w'):Qe w' b p f:=by
 obtain ⟨⟨n,h1⟩,h2⟩:=h;exact ⟨⟨n,h1.keep hb⟩,fun a ha=>(h2 a ha).mono hb⟩
def aqQ (w:World) (p:Pl) (e:Ending) (w':World):Prop:=∃ b f,e=.returned (.map (some b))/\AU w w'/\w.heap.size<=b/\Qe w' b p f
theorem ajQ (v:Value) (p:Pl) (w:World) (h:Ci w v p) (hv:Valid p):Calls Tryz.prog 59 #[v] w (aqQ w p):=by
 have Kr:=AA (fun id W (hW:AU w W)=>aBK v p id W (h.mono hW) hv.short);obtain ⟨_,_,_,al,rfl,hpa,⟨An,cn,rfl,-⟩,⟨⟨Aa,ca,rfl,hm1,hm2,FD⟩,Vw⟩,⟨Af,cf,rfl,-⟩⟩:=h;unfold maxLen at hm2;have GN:=AA FD;have jL:=AA Vw;have hall:al.length<=256:=by
  have hl:=hv.lim;unfold Ji at hl;simp only [QC,Iy] at hl;have h2:=hl.2;rw [hpa,Cj] at h2;omega
 have Kv:=AA (show ∀ k (hk:k<al.length),al[k].1∈p.AP from fun k hk=>by rw [hpa];exact Gh (BO hk));have Xt:=AA (show ∀ a∈p.AP,∃ k,∃ hk:k<al.length,al[k].1=a from fun a ha=>by
  rw [hpa] at ha;obtain ⟨x,hx,rfl⟩:=ED.1 ha;obtain ⟨k,hk,rfl⟩:=EF.1 hx;exact ⟨k,hk,rfl⟩)
 have Vx:=AA (fun k (hk:k<al.length)=>hv.sound.path (Kv.out k hk));have HIb:=AA (fun k (hk:k<al.length)=>hv.Gx (Kv.out k hk));have HNe:=AA (show ∀ j k (hj:j<al.length) (hk:k<al.length),j<k->al[j].1.id≠al[k].1.id from fun j k hj hk hjk e=>by
  have h1:=hv.sound.AP;rw [hpa,IV,I5,Fa] at h1;have:=h1 j k hj hk hjk
  simp only [Function.comp] at this;omega)
 generalize p.nodes.length=nn at *;generalize p.faces.length=nf at *;clear hpa FD Vw hv;have hmm:=@run_makeMap Tryz.prog;go_enter Tryz.func59,Tryz.ntmps59;go_upto_region 2 with fail;obtain ⟨gm,hgm⟩:=BR (w.heap.size+1);obtain ⟨W1,hW⟩:∃ W:World,W=(w.alloc (.cells #[.slice An nn cn,.slice Aa al.length ca,.slice Af nf cf] 26)).alloc (.map #[] 0):=⟨_,rfl⟩;have X1:AO W1 w.heap.size 26 #[.slice An nn cn,.slice Aa al.length ca,.slice Af nf cf]:=by rw [hW];exact (AO.made rfl _ _).alloc _
 have Jz:=AA (show NH W1 gm 0 (fun _=>sv0) by
  have:=NH.made (w.alloc (.cells #[.slice An nn cn,.slice Aa al.length ca,.slice Af nf cf] 26))
  rw [hW,hgm];simpa using this)
 have HB1:=AA (show AU w W1 by rw [hW];exact bA (bA (bR w) _) _);have hgl:w.heap.size<gm:=by omega
 rw [<- hW,<- hgm];clear hW hgm hmm;have Dt:=AA X1;obtain ⟨BF,BG,BH,BI,-,-,-⟩:=X1.Az;go_upto_block 0 with fail;clear X1 BF BG BH BI;go_wp2_with fail;go_loopw [12] (fun i wr=>∃ (k:Nat) (f:Int->SV),k<=al.length/\i=.int .i64 k/\NH wr gm k f/\(∀ j (hj:j<al.length),j<k->Own wr w.heap.size 39 2 Ee (BK (f al[j].1.id)) (AV p al[j].1))/\AO wr w.heap.size 26 #[.slice An nn cn,.slice Aa al.length ca,.slice Af nf cf]/\AU w wr) (fun i _=>al.length-(intOf i).toNat)
 case atStart => exact ⟨0,fun _=>sv0,Bv _,rfl,Jz.out,(fun j _ h=>by omega),Dt.out,HB1.out⟩
 case round =>
  obtain ⟨k,f,hk,rfl,mp,own,X1,hb⟩:=hrel;obtain ⟨wo,rfl⟩:=BR wr;have HM:=AA mp;have HO:=AA own;have HX:=AA X1;have Hb:=AA hb;have aCl:=hb.size;have hgo:=mp.lt;clear mp own hb Dt Jz HB1;by_cases hlt:k<al.length
  ·obtain ⟨b,o,rfl,hlb,c0,c1,c2,c3,c4,c5⟩:=(GN.out.mono Hb.out).ar hlt;obtain ⟨Av,cv,hvv,-⟩:=jL.out k hlt;rw [hvv] at c3;have hpo:=Vx.out k hlt;have hib:=HIb.out k hlt;have hne:=fun j hj hjk=>HNe.out j k hj hlt hjk;have hpt:=Kr.out al[k].1.id;rw [hpo] at hpt;have HP:=AA (show ∀ (f:Int->SV) W,(∀ j (hj:j<al.length),j<k->Own W w.heap.size 39 2 Ee (BK (f al[j].1.id)) (AV p al[j].1))->Own W w.heap.size 39 2 Ee (BK (f al[k].1.id)) (AV p al[k].1)->∀ j (hj:j<al.length),j<k+1->Own W w.heap.size 39 2 Ee (BK (f al[j].1.id)) (AV p al[j].1) from fun f W h1 h2 j hj hjk=>by
    by_cases e:j=k
    · subst e;exact h2
    · exact h1 j hj AB)
   have TI:=AA hne;clear hvv hpo hne;generalize al[k].1=a at *;generalize AV p a=P at *;obtain ⟨aid,afr,acd,aqR,ace,aright⟩:=a;simp only at c0 c1 c2 c3 c4 c5 hib hpt HP TI;generalize aqR.length=vn at *;have HPk:=AA hpt;clear hpt;go_upto_region 5 with fail;obtain ⟨W5,hW⟩:∃ W:World,W=wo.alloc (.cells #[.int .i64 aid,.int .i64 afr,.int .i64 acd,.slice Av vn cv,.int .i64 ace,.int .i64 aright] 50):=⟨_,rfl⟩;have HA:=AA (show AU wo W5 by rw [hW];exact bA (bR wo) _);have X5:AO W5 wo.heap.size 50 #[.int .i64 aid,.int .i64 afr,.int .i64 acd,.slice Av vn cv,.int .i64 ace,.int .i64 aright]:=by rw [hW];exact AO.made rfl _ _
   rw [<- hW];clear hW c0 c1 c2 c3 c4 c5 hlb;replace X1:=HX.out.keep HA.out;obtain ⟨CJ,CO,CS,F8,UN,nN,nP,-,-,-,-,-,-⟩:=X5.IW
   try clear BF BG BH BI
   obtain ⟨BF,BG,BH,BI,-,-,-⟩:=X1.Az;go_wp2_with fail;refine (HPk.out _ (bT Hb.out HA.out)).mono ?_;rintro e w6 ⟨A6,c6,rfl,hb6,Us⟩;simp only [H9,VP,if_true] at Us ⊢;have GU:=AA (bT HA.out hb6);have RH:=AA Us;have DI:=AA (show AO W5 wo.heap.size 50 #[.int .i64 aid,.int .i64 afr,.int .i64 acd,.slice Av vn cv,.int .i64 ace,.int .i64 aright] from X5);have X6:=DI.out.keep hb6;have Ut:=AA (HM.out.keep GU.out);have Tc:=HA.out.size;have oK:=hb6.size;clear hb6 Us X5 CJ CO CS F8 UN nN nP X1 BF BG BH BI DI;obtain ⟨w7,hr7,hm7,G9⟩:=Ut.out.upd AB aid (N8 AB AB) ⟨A6,P.length,c6⟩ (aqP (x:=⟨A6,P.length,c6⟩) RH.out);have HM7:=AA hm7;have nX:=fun (h:gm=w.heap.size)=>(show False by omega);have Ip:=AA (AO.grow (HX.out.keep GU.out) G9 (fun e=>ajO Ut.out (HX.out.keep GU.out) (Dq e)));have fF:=AA (show Own w7 w.heap.size 39 2 Ee (BK ⟨A6,P.length,c6⟩) P from Own.grown (Own.ES RH.out AB) G9 (fun g hg e=>ajP Ut.out RH.out (hg.trans e)));have Nk:=AA (show ∀ j (hj:j<al.length),j<k->Own w7 w.heap.size 39 2 Ee (BK (f al[j].1.id)) (AV p al[j].1) from fun j hj hjk =>
    Own.grown ((HO.out j hj hjk).keep GU.out) G9 (fun g hg e=>ajP Ut.out ((HO.out j hj hjk).keep GU.out) (hg.trans e)))
   have MW:=AA (bG (bT Hb.out GU.out) G9 (fun g hg=>by have:=Dq hg;omega));unfold BK at hr7;clear hm7 G9 nX;obtain ⟨EK,EL,EM,ML,QM,dN,dO,-,-,-,-,-,-⟩:=X6.IW;go_wp2;go_roundw
   case rel => exact ⟨k+1,fun i=>if i=aid then ⟨A6,P.length,c6⟩ else f i,AB,BJ,HM7.out,HP.out (fun i=>if i=aid then ⟨A6,P.length,c6⟩ else f i) w7 (fun j hj hjk=>by
    show Own w7 _ _ _ _ (BK (if _=aid then _ else _)) _
    rw [AX (TI.out j hj hjk)];exact Nk.out j hj hjk) (by
    show Own w7 _ _ _ _ (BK (if aid=aid then _ else _)) _
    rw [AZ rfl];exact fF.out),Ip.out,MW.out⟩
   case measure => exact BL
  ·obtain rfl:k=al.length:=by omega
   go_wp2;go_ret;exact ⟨gm,f,rfl,Hb.out,AB,⟨_,HM.out⟩,fun a ha=>by
    obtain ⟨j,hj,rfl⟩:=Xt.out a ha;exact (HO.out j hj hj).sl⟩
def lenV:Value->Nat
 | .slice _ n _=>n
 | _=>0
def Td (S:Int->Bool) (l:List Int) (x:Int):Bool:=S x || decide (x∈l)
theorem aqS (S:Int->Bool):Td S []=S:=by
 funext x;simp [Td]
theorem aqT (S:Int->Bool) (l:List Int) (y:Int):(fun i=>if i=y then true else Td S l i)=Td S (l++[y]):=by
 funext x
 unfold Td;by_cases e:x=y
 · subst e;simp
 · simp [e]
theorem aqU {f:Int->Int} {D:List Int} (hD:∀ x∈D,f x∈D) (hi:∀ x∈D,∀ y∈D,f x=f y->x=y) {x:Int} (hx:x∈D) {j:Nat} (hj:j<LJ f D x):pw f x j∉iter f x j/\pw f x j∈JZ f D x:=by
 obtain ⟨-,-,-,-,h5,-⟩:=Ws hD hi hx;constructor
 ·intro hm;obtain ⟨k,hk,e⟩:=Uk.1 hm;unfold JZ List.Nodup at h5;rw [Fa] at h5;have:=h5 k j (by rw [XW];omega) (by rw [XW];omega) hk
  rw [iJ,iJ] at this;exact this e
 · exact Uk.2 ⟨j,hj,rfl⟩
theorem aqV {f:Int->Int} {D:List Int} (hD:∀ x∈D,f x∈D) (hi:∀ x∈D,∀ y∈D,f x=f y->x=y) {x:Int} (hx:x∈D):pw f x (LJ f D x)∈JZ f D x:=by
 obtain ⟨h1,-,h3,-,-,-⟩:=Ws hD hi hx;rw [h3];exact Uk.2 ⟨0,h1,rfl⟩
def aqW (w:World) (gm n:Nat) (S:Int->Bool) (l:List Int) (e:Ending) (w':World):Prop :=
 ∃ A c,e=.returned (.slice A l.length c)/\Own w' w.heap.size 3 1 DR (.slice A l.length c) l/\Le w' gm (n+l.length) (Td S l)/\w.grownBy w' (some gm)
theorem yH {w:World} {gm n:Nat} {f:Int->Bool} (h:Le w gm n f) {g:Nat} {t:TypeId} {cs:Array Value} (hg:AO w g t cs):g≠gm:=by
 rintro rfl;obtain ⟨D,h1,-⟩:=h;obtain ⟨es,clock,h2,-⟩:=h1;unfold AO at hg;rw [hg] at h2
 cases h2
theorem oL {w:World} {gm n:Nat} {f:Int->Bool} (h:Le w gm n f) {base:Nat} {e:TypeId} {size:Nat} {α:Type} {fe:α->List Value} {v:Value} {l:List α} (ho:Own w base e size fe v l):v.ownBlock≠some gm:=by
 rcases ho.2 with ⟨rfl,_⟩ | ⟨g,cap,cur,rfl,_,hh,_⟩
 · simp [Value.ownBlock]
 ·intro e';exact yH h (cs:=cur) (g:=g) hh sZ
theorem Own.Ig {α:Type} {w:World} {base:Nat} {e:TypeId} {size:Nat} {f:α->List Value} {v:Value} {l:List α} (h:Own w base e size f v l):∃ A c,v=.slice A l.length c/\l.length<=c/\c<=maxLen:=by
 obtain ⟨A,c,rfl,h1,h2,-⟩:=Own.sl h;exact ⟨A,c,rfl,h1,h2⟩
theorem aqX (f:Int->Int) (D:List Int) (hD:∀ x∈D,f x∈D) (hi:∀ x∈D,∀ y∈D,f x=f y->x=y) (F:Int->Int) (hF:∀ x∈D,F x=f x) (hw:∀ x∈D,En x) (hl:D.length<=100000) (S:Int->Bool) (d:Int) (hd:d∈D) (hS:∀ x∈JZ f D d,S x=false)
  (gs gn gm gk n m:Nat) (w:World) (hn:n<=1000000) (h1:AO w gs 139 #[.map (some gm)]) (h2:AO w gn 96 #[.map (some gk)]) (hm:Le w gm n S) (hk:Gy w gk m F) (hne:gm≠gk) :
  Calls Tryz.prog 119 #[.int .i64 d,.pointer (some ⟨gs,0,none⟩),.pointer (some ⟨gn,0,none⟩)] w (aqW w gm n S (JZ f D d)):=by
 obtain ⟨o1,o2,o3,-,-,o6⟩:=Ws hD hi hd;obtain ⟨q,hq⟩:=BN (JZ f D d);have ajR:iter f d (LJ f D d)=q:=hq;have ajS:=AA (fun j (hj:j<LJ f D d)=>aqU hD hi hd hj);have Qg:=AA (fun j=>Xl (f:=f) hD hd j);have hend:=aqV hD hi hd;rw [hq] at o6 hS hend ajS ⊢;have HF:=AA hF;have HW:=AA hw;have HS:=AA hS;have aCm:=AA hend;have aCn:=AA ajR;have aCo:=AA o6;clear hF hw hS hend ajR o6 o3 hD hi hq hd;generalize LJ f D d=N at *;have Hm0:=AA hm;have Hk0:=AA hk;have H1:=AA h1;have H2:=AA h2;have n1:=yH hm h1;have n2:=yH hm h2;have hlt1:=h1.lt;have hlt2:=h2.lt;have ayx:=hm.lt;have hltk:=hk.lt;clear hm hk h1 h2;go_enter Tryz.func119,Tryz.ntmps119;go_wp2_with fail;go_loopw [0,4] (fun x s wr=>∃ j:Nat,j<=N/\x=.int .i64 (pw f d j)/\(∃ A c,s=.slice A j c)/\Own wr w.heap.size 3 1 DR s (iter f d j)/\Le wr gm (n+j) (Td S (iter f d j))/\w.grownBy wr (some gm)) (fun _ s _=>N-lenV s)
 case atStart => exact ⟨0,Bv _,rfl,⟨none,0,rfl⟩,Own.nil _ _ _ _ _,by rw [show iter f d 0=[] from rfl,aqS];exact Hm0.out,gR w _⟩
 case round =>
  obtain ⟨j,hj,rfl,⟨A,c,rfl⟩,own,mp,hg⟩:=hrel;have HO:=AA own;have HM:=AA mp;have HG:=AA hg;have X1:=H1.out.grow hg (fun e=>n1 (Dq e));have tX:w.heap.size<=wr.heap.size:=hg.size;clear own mp hg;obtain ⟨y,hy⟩:=BN (pw f d j);have hym:=Qg.out j;have hy2:f y=pw f d (j+1):=by rw [<- hy];rfl
  have hFy:F y=pw f d (j+1):=by rw [<- hy2];exact HF.out y (hy ▸ hym)
  have hwy:En y:=HW.out y (hy ▸ hym);have aeB:=ajS.out j;have hlk:=HM.out.look y hwy;rw [hy] at aeB ⊢;have HY:=AA hy;have HFy:=AA hFy;have HWy:=AA hwy;have HN:=AA aeB;have HYm:=AA (hy ▸ hym);clear hym hy2 hFy hwy aeB;by_cases hlt:j<N
  ·have hsf:Td S (iter f d j) y=false:=by
    unfold Td;have h:=HN.out hlt;rw [HS.out y h.2];simpa using h.1
   rw [hsf] at hlk;obtain ⟨w3,hr3,Q9,hg3⟩:=HM.out.upd AB y HWy.out true;rw [aqT] at Q9;have hsn:iter f d j++[y]=iter f d (j+1):=by rw [adJ,HY.out]
   rw [hsn] at Q9;have Pm:=AA Q9;have RI:=AA (gT HG.out hg3);have F5:=AA (Own.grown HO.out hg3 (fun g' hg' e=>oL HM.out HO.out (by rw [hg',e])));have hsz3:wr.heap.size<=w3.heap.size:=hg3.size;have Xu:=AA hsn;clear hsf Q9 hg3 hsn hy;obtain ⟨BF,BG,-⟩:=X1.Fb;go_upto_region 3 with fail;clear hlk hr3 X1 BF BG;go_upto_region 4 with
    (at_builtin
     refine FK _ rfl (.tmp 11) (.tmp 13) _ rfl (base:=w.heap.size) JW Iz JR rfl (Own.alloc F5.out _) rfl (l2:=[y]) (Sl.lit (n:=1) (AO.made rfl _ _) rfl (DN AB)) abL abL DT ?_;intro v1 w1 ho1 hg1 XY;rw [Xu.out] at ho1;obtain ⟨A1,c1,hv1,-⟩:=Own.Ig ho1;rw [XW] at hv1;subst hv1;have Hg:=AA ho1;have hown:=F5.out.lt;have hG1:w.grownBy w1 (some gm):=⟨by rw [hg1.os];exact RI.out.os,by rw [hg1.tape];exact RI.out.tape,by rw [hg1.output];exact RI.out.output,EH RI.out.size (EH Ak hg1.size),fun i hi hne=>by
      rw [hg1.block i (by simp;have:=RI.out.size;omega) (fun e=>by have:=(hown i e.symm).1;omega),<- RI.out.block i hi hne];exact (bA (bR w3) (.cells #[.int .i64 y] 3)).block i (by have:=RI.out.size;omega)⟩
     have yI:=AA hG1;have Jz:=AA ((Pm.out.keep (bA (bR w3) (.cells #[.int .i64 y] 3))).kept hg1 (fun e=>oL Pm.out F5.out e.symm));clear ho1 hg1 XY hG1 hown
     )
   have X2:=H2.out.grow yI.out (fun e=>n2 (Dq e));have hlk2:=(Hk0.out.kept yI.out (fun e=>hne (Dq e).symm)).look y HWy.out;rw [HFy.out] at hlk2;obtain ⟨BU,BX,-⟩:=X2.Fb;go_wp2;go_roundw
   case rel => exact ⟨j+1,AB,rfl,⟨A1,c1,rfl⟩,Hg.out,Jz.out,yI.out⟩
   case measure => simp only [lenV];omega
  ·have hjN:j=N:=by omega
   subst hjN;have hst:Td S (iter f d j) y=true:=by
    unfold Td;have h:=aCm.out;rw [HY.out,<- aCn.out] at h;simp [h]
   rw [hst] at hlk;clear hst
   try clear BF BG
   obtain ⟨BF,BG,-⟩:=X1.Fb;go_wp2;go_ret;rw [aCn.out] at HO HM;have hL:=aCo.out;have ho:=HO.out;have hm:=HM.out;subst hL;exact ⟨A,c,rfl,ho,hm,HG.out⟩
theorem aCp (l:List Int) (j:Nat):(l.flatMap DR)[j]? = (l[j]?).map (.int .i64 ·):=by
 induction l generalizing j with
 | nil=>simp
 | cons a l ih =>
  rw [KI]
  cases j with
  | zero=>rfl
  | succ j =>
   show (.int .i64 a::l.flatMap DR)[j+1]? = _
   rw [List.getElem?_cons_succ,ih,List.getElem?_cons_succ]
theorem aCq (l:List Int):(l.flatMap DR).length=l.length:=by
 have:=flat_length DR 1 Iz l
 omega
def aiX (w:World) (base:Nat) (v:Value) (sl:List Int) (e:Ending) (w':World):Prop :=
 e=.returned (.tuple #[])/\Own w' base 3 1 DR v sl/\w.grownBy w' v.ownBlock
open Go.RowKit Go.Sort
def fG (lt:Int->Int->Bool) (x y:Int):Int:=if lt x y then -1 else if lt y x then 1 else 0
section
variable {α:Type} [Inhabited α] (enc:α->Value) (w:World)
theorem aeC (blk off m:Nat) (dk:Array α) (os:Array Obj):(sortWorld enc w blk off m dk os).heap=w.heap.modify blk (onCells (putCells enc off dk))++os:=rfl
theorem aiY (blk off m:Nat) (dk:Array α) (os:Array Obj):w.grownBy (sortWorld enc w blk off m dk os) (some blk):=by
 refine ⟨rfl,rfl,rfl,?_,fun i hi hne=>?_⟩
 · rw [aeC];simp
 ·have hne':blk≠i:=fun e=>hne Rt;rw [aeC,Array.getElem?_append_left mF,Array.getElem?_modify,AX hne']
end
def yJ (lt:Int->Int->Bool) (D:List Int) (x y:{x:Int // x∈D}):Int:=fG lt x.1 y.1
theorem aCr {lt:Int->Int->Bool} {D:List Int} (x y:{x:Int // x∈D}):ltOf (yJ lt D) x y=lt x.1 y.1:=by
 unfold ltOf yJ fG
 cases h1:lt x.1 y.1
 · cases h2:lt y.1 x.1<;>simp
 · simp
theorem as6 {lt:Int->Int->Bool} {D:List Int} (ho:Yn lt D):SWO (ltOf (yJ lt D)) where
 irrefl x:=by
  rw [aCr]
  cases h:lt x.1 x.1
  · rfl
  · have:=ho.asym _ x.2 _ x.2 h;rw [h] at this;cases this
 trans x y z h1 h2:=by
  rw [aCr] at *
  cases h:lt x.1 z.1
  ·have h3:=ho.asym _ y.2 _ z.2 h2;have:=ho.ntr _ x.2 _ z.2 _ y.2 h h3
   rw [h1] at this;cases this
  · rfl
 ntrans x y z h1 h2:=by
  rw [aCr] at *;exact ho.ntr _ x.2 _ y.2 _ z.2 h1 h2
theorem as7 (base:Nat) (v:Value) (sl:List Int) (lt:Int->Int->Bool) (fn:Nat) (cb:Array Value) (w:World) (hown:Own w base 3 1 DR v sl) (ho:Yn lt sl) (hn:sl.length<=4294967296)
  (eg:∀ args w,(callFunc fn args).run Tryz.prog w=.ok (.enter fn args) w)
  (hc:∀ W,w.grownBy W v.ownBlock->∀ x∈sl,∀ y∈sl,Calls Tryz.prog fn (#[.int .i64 x,.int .i64 y]++cb) W fun e w'=>e=.returned (.int .i64 (fG lt x y))/\NY W w') :
  Calls Tryz.prog 175 #[v,.func (.func fn) #[] cb] w (aiX w base v (sortB lt sl)):=by
 rcases sl with _ | ⟨s0,rest⟩
 ·have hv:∃ p cap,v=.slice p 0 cap:=by
   rcases hown.2 with ⟨h,_⟩ | ⟨g,cap,cur,h,_⟩
   · exact ⟨_,_,h⟩
   · exact ⟨_,_,h⟩
  obtain ⟨p,cap,rfl⟩:=hv;refine Calls.mono (AnyF.slices_SortFunc_none {Tryz.sortIn with} p cap (.func (.func fn) #[] cb) w) ?_;rintro e w' ⟨rfl,rfl⟩;exact ⟨rfl,hown,World.grownBy.refl _ _⟩
 generalize hsl:s0::rest=sl at *;have hs0:s0∈sl:=by rw [<- hsl];simp
 have hpos:0<sl.length:=by rw [<- hsl];simp
 obtain ⟨hlen,hown2⟩:=hown;rcases hown2 with ⟨_,h0⟩ | ⟨g,cap,cur,rfl,hg,hh,hnc,hcm,hcs,hx⟩
 · omega
 haveI hI:Inhabited ({x:Int // x∈sl}):=⟨⟨s0,hs0⟩⟩
 have hdl:∃ dl:List ({x:Int // x∈sl}),dl.map (·.1)=sl:=⟨sl.attachWith (·∈sl) (fun _ h=>h),Ak⟩;obtain ⟨dl,hdl⟩:=hdl;have hdn:dl.length=sl.length:=by have:=congrArg List.length hdl;simpa using this
 have hcur:∀ j,j<sl.length->cur[j]? = (sl[j]?).map (.int .i64 ·):=fun j hj=>by
  rw [<- aCp,<- hx,List.getElem?_take,AZ AB];simp
 let enc:{x:Int // x∈sl}->Value:=fun x=>.int .i64 x.1
 have hcmp:CmpLays1 Tryz.prog fn cb enc (yJ lt sl) g 0 dl.toArray.size w:=fun m os dk hdk x y=>by
  have hg':=aiY enc w g 0 m dk os;exact (hc _ hg' x.1 x.2 y.1 y.2).mono fun e w' h=>⟨h.1,vC h.2⟩
 have hget:∀ j,j<dl.length->sl[j]? = some (dl.toArray[j]!).1:=fun j hj=>by
  have e1:dl.toArray[j]! = dl[j]:=by rw [getElem!_pos dl.toArray j (by simpa using hj)];simp
  rw [e1]
  have:sl[j]? = (dl.map (·.1))[j]? := by rw [hdl]
  rw [this,List.getElem?_map,Dh hj];rfl
 have hH:Holds enc w g 0 dl.toArray:=fun j hj=>by
  have hj':j<dl.length:=by simpa using hj
  refine ⟨?_,AO.frozen (t:=3) (cs:=cur) hh _⟩;rw [cell_of_row w g _ cur 3 (0,0) hh,Qm,hcur j AB,hget j hj'];rfl
 have hcon:=Any.slices_SortFunc Tryz.sortIn enc (fun _=>rfl) (yJ lt sl) (as6 ho) fn cb g 0 cap dl.toArray w eg hcmp hH (AO.lt hh) DT;have hns:dl.toArray.size=sl.length:=by simp [hdn]
 rw [hns] at hcon;refine Calls.mono hcon ?_;rintro e w' ⟨rfl,d',n,os,hp,hs,rfl⟩;obtain ⟨p1,-,p3⟩:=hp;have hd':d'.size=sl.length:=by rw [p1,hns]
 have hperm:d'.toList.Perm dl:=by
  have e1:d'.extract 0 sl.length=d':=by rw [<- hd'];simp
  have e2:dl.toArray.extract 0 sl.length=dl.toArray:=by rw [<- hns];simp
  rw [e1,e2] at p3;simpa using p3
 have as8:(d'.toList.map (·.1)).Perm sl:=by
  have h1:(d'.toList.map (·.1)).Perm (dl.map (·.1)):=hperm.map _;exact h1.trans (List.Perm.of_eq hdl)
 have hsorted:(d'.toList.map (·.1)).Pairwise (fun a b=>lt b a=false):=by
  rw [I5,Fa];intro i j hi hj hij;have hj':j<d'.size:=by simpa using hj
  have:=hs i j (Bv _) hij (by rw [<- hd'];exact hj')
  rw [aCr,getElem!_pos d' j hj',getElem!_pos d' i AB] at this;simpa using this
 have hd2:d'.toList.map (·.1)=sortB lt sl:=aqJ ho as8 hsorted;refine ⟨rfl,?_,aiY enc w g 0 n d' os⟩;rw [<- hd2];have hl':(d'.toList.map (·.1)).length=sl.length:=by simp [hd']
 unfold Own;rw [hl'];refine ⟨by rw [aCq,hl'];omega,.inr ⟨g,cap,putCells enc 0 d' cur,rfl,hg,?_,hnc,hcm,tH,?_⟩⟩
 ·have hgl:g<w.heap.size:=AO.lt hh;rw [aeC,Array.getElem?_append_left (by simpa using hgl),Array.getElem?_modify,AZ rfl,hh];rfl
 ·apply lZ;intro j;rw [List.getElem?_take];by_cases hj:j<sl.length*1
  ·rw [AZ hj];have hjc:j<cur.size:=by rw [hcs];omega
   have hjd:j<d'.size:=by rw [hd'];omega
   rw [aCp,List.getElem?_map];have e1:(putCells enc 0 d' cur).toList[j]? = some (enc d'[j]!):=by
    simp [putCells,hjc,hjd]
   rw [e1,getElem!_pos d' j hjd,Array.getElem?_toList,Array.getElem?_eq_getElem hjd];rfl
  · rw [AX hj,YN (by rw [aCq,hl'];omega)]
