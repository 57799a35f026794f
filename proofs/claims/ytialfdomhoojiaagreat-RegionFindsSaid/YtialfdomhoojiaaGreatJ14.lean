import Derived.Test.YtialfdomhoojiaaGreatJ13
set_option linter.unusedSimpArgs false
set_option linter.unusedVariables false
namespace Go.Proofs.YtialfdomhoojiaaGreat
open Go.RowKit
set_option linter.unusedSectionVars false
def SE (v a b:Pt):Int:=if a.y<=v.y/\v.y<b.y/\0<tw a b v then 1 else if b.y<=v.y/\v.y<a.y/\0<tw b a v then -1 else 0
def Qh (p:Pl) (z:Int->Int) (v:Pt):Int:=DX p z (SE v)
def Ip (a b v:Pt):Prop:=tw a b v=0/\min a.x b.x<=v.x/\v.x<=max a.x b.x/\min a.y b.y<=v.y/\v.y<=max a.y b.y
instance (a b v:Pt):Decidable (Ip a b v):=by unfold Ip;infer_instance
def Uk (p:Pl) (z:Int->Int) (v:Pt):Prop:=∀ a∈p.AU,z a.id≠0->∀ k,k+1<(AV p a).length->¬ Ip ((AV p a).getD k AY) ((AV p a).getD (k+1) AY) v
theorem aqy (a b v:Pt):xN a b (2*hY v)-2*v.x*(hY b-hY a)=16777216*tw a b v:=by unfold xN tw hY;grind
theorem ajD {D:Int} (hD:0<D) {a b v:Pt} (hab:hY a<hY b) (hd:hY b-hY a∣D):2*D*v.x<xE D a b (2*hY v)↔0<tw a b v:=by
 obtain ⟨q,hq⟩:=hd;unfold xE;have e1:D / (hY b-hY a)=q:=by rw [hq];exact sD _ AB
 have hx:=aqy a b v;have hn:0<hY b-hY a:=by omega
 rw [e1];generalize hY b-hY a=n at *;generalize xN a b (2*hY v)=X at *;have hqp:0<q:=by
  rcases Ic q 0 with g | g | g
  · have:=Wj hn g;omega
  · subst g;rw [KN] at hq;omega
  · exact g
 have k:X*q-2*D*v.x=(X-2*v.x*n)*q:=by rw [hq];grind
 rw [hx] at k;have s1:0<tw a b v->0<16777216*tw a b v*q:=fun h=>JO AB hqp;have s2:tw a b v<=0->16777216*tw a b v*q<=0:=fun h=>aAB AB AB;generalize tw a b v=t at *;constructor<;>intro<;>omega
theorem aB4 (p:Pl) (z u:Int->Int) (f:Pt->Pt->Int):DX p (fun i=>z i+u i) f=DX p z f+DX p u f:=by
 unfold DX;rw [<- Sz];exact Gx _ _ _ fun a _=>by rw [ab3]
theorem Fv.add {p:Pl} {z u:Int->Int} (h1:Fv p z) (h2:Fv p u):Fv p (fun i=>z i+u i):=fun n hn=>by
 have e1:=h1 n hn;have e2:=h2 n hn;refine (Gx _ _ (fun a:Ar=>z a.id*((if a.dst=n.id then (1:Int) else 0)-(if a.fr=n.id then 1 else 0))+u a.id*((if a.dst=n.id then (1:Int) else 0)-(if a.fr=n.id then 1 else 0))) (fun a _=>ab3 _ _ _)).trans ?_;rw [Sz,e1,e2];rfl
theorem Fv.neg {p:Pl} {z:Int->Int} (h1:Fv p z):Fv p (fun i=>-z i):=fun n hn=>by
 have e1:=h1 n hn;refine (Gx _ _ (fun a:Ar=>-(z a.id*((if a.dst=n.id then (1:Int) else 0)-(if a.fr=n.id then 1 else 0)))) (fun a _=>OZ _ _)).trans ?_;rw [Uj,e1];rfl
theorem aqz {D:Int} (hD:0<D) {a b v:Pt} (na:Bg a=true) (nb:Bg b=true) (nv:Bg v=true) (hne:a≠b) (hd:hY b-hY a∣D) (hav:a≠v) (hbv:b≠v) (hoff:¬ Ip a b v) :
  SE v a b=(if 2*D*v.x<xE D a b (2*hY v) then EZ (2*hY v) a b else 0)+((if a.y=v.y/\v.x<a.x then 1 else 0)-(if b.y=v.y/\v.x<b.x then 1 else 0)):=by
 have key:∀ {a b:Pt},Bg a=true->Bg b=true->hY a<hY b->hY b-hY a∣D->a≠v->b≠v->¬ Ip a b v ->
   SE v a b=(if 2*D*v.x<xE D a b (2*hY v) then EZ (2*hY v) a b else 0)+((if a.y=v.y/\v.x<a.x then 1 else 0)-(if b.y=v.y/\v.x<b.x then 1 else 0)):=by
  intro a b na nb hab hd hav hbv hoff;have hx:=ajD hD (v:=v) hab hd;simp only [hx];rw [Qq] at na nb nv;have ha:¬ (a.x=v.x/\a.y=v.y):=fun e=>hav (Pt.ext_iff'.2 e);have hb:¬ (b.x=v.x/\b.y=v.y):=fun e=>hbv (Pt.ext_iff'.2 e);have tba:tw b a v=-tw a b v:=by unfold tw;grind
  unfold SE EZ Ip at *;rw [tba];unfold hY at *;have s1:a.y=v.y->tw a b v=(b.y-a.y)*(a.x-v.x):=fun e=>by unfold tw;rw [e];grind
  have s2:b.y=v.y->tw a b v=(b.y-a.y)*(b.x-v.x):=fun e=>by unfold tw;rw [e];grind
  have p1:∀ {x y:Int},0<x->0<y->0<x*y:=fun h1 h2=>JO h1 h2;have p2:∀ {x y:Int},0<x->y<0->x*y<0:=fun h1 h2=>Wj h1 h2;generalize tw a b v=t at *;by_cases hy:a.y=b.y
  ·have hx2:a.x<b.x:=by omega
   have e1:¬ (a.y<=v.y/\v.y<b.y/\0<t):=by omega
   have e2:¬ (b.y<=v.y/\v.y<a.y/\0 < -t):=by omega
   rw [AX e1,AX e2];by_cases hv:a.y=v.y
   ·have t0:t=0:=by rw [s1 hv,hy,aAH,JQ]
    rw [AX (show ¬ 0<t by omega)];by_cases c:v.x<a.x
    · rw [AZ ⟨hv,c⟩,AZ AB];rfl
    ·have:¬ v.x<b.x:=fun c2=>hoff ⟨t0,AB⟩
     rw [AX AB,AX AB];rfl
   ·rw [AX (show ¬ (a.y=v.y/\v.x<a.x) by omega),AX (show ¬ (b.y=v.y/\v.x<b.x) by omega)];split
    ·by_cases c:v.y<a.y
     · rw [AZ AB,AZ AB];rfl
     · rw [AX AB,AX AB];rfl
    · rfl
  ·have hy:a.y<b.y:=by omega
   rw [AX (show ¬ (b.y<=v.y/\v.y<a.y/\0 < -t) by omega)];by_cases c1:a.y=v.y
   ·have e:=s1 c1;rw [AX (show ¬ (b.y=v.y/\v.x<b.x) by omega)];by_cases c2:v.x<a.x
    ·have:=p1 (show 0<b.y-a.y by omega) (show 0<a.x-v.x by omega)
     rw [AZ (show a.y<=v.y/\v.y<b.y/\0<t by omega),AZ (show 0<t by omega),AZ AB,AZ AB,AZ ⟨c1,c2⟩];rfl
    ·have:=p2 (show 0<b.y-a.y by omega) (show a.x-v.x<0 by omega)
     rw [AX (show ¬ (a.y<=v.y/\v.y<b.y/\0<t) by omega),AX (show ¬ 0<t by omega),AX AB];rfl
   ·rw [AX (show ¬ (a.y=v.y/\v.x<a.x) by omega)];by_cases c2:b.y=v.y
    ·have e:=s2 c2;rw [AX (show ¬ (a.y<=v.y/\v.y<b.y/\0<t) by omega)];by_cases c3:v.x<b.x
     ·have:=p1 (show 0<b.y-a.y by omega) (show 0<b.x-v.x by omega)
      rw [AZ (show 0<t by omega),AZ AB,AX AB,AZ ⟨c2,c3⟩];rfl
     ·have:=p2 (show 0<b.y-a.y by omega) (show b.x-v.x<0 by omega)
      rw [AX (show ¬ 0<t by omega),AX AB];rfl
    ·rw [AX (show ¬ (b.y=v.y/\v.x<b.x) by omega)];by_cases c3:0<t
     ·rw [AZ c3];by_cases c4:a.y<v.y/\v.y<b.y
      · rw [AZ AB,AZ AB,AX AB];rfl
      ·rw [AX AB];by_cases c5:v.y<a.y
       · rw [AZ AB,AZ AB];rfl
       · rw [AX AB,AX AB];rfl
     · rw [AX AB,AX c3];rfl
 rcases Ic (hY a) (hY b) with c | c | c
 · exact key na nb c hd hav hbv hoff
 · exact absurd (MI na nb c) hne
 ·have ar0:¬ Ip b a v:=fun e=>hoff (by
   obtain ⟨e1,e2⟩:=e;refine ⟨?_,by rw [sG,sH a.x,sG a.y,sH a.y];exact e2⟩
   have:tw b a v=-tw a b v:=by unfold tw;grind
   omega)
  have e:=key nb na c (by rw [show hY a-hY b=-(hY b-hY a) by omega];exact sF.2 hd) hbv hav ar0;have e1:SE v b a=-SE v a b:=by
   unfold SE;by_cases c1:b.y<=v.y/\v.y<a.y/\0<tw b a v
   · rw [AZ c1,AX AB,AZ c1];rfl
   ·by_cases c2:a.y<=v.y/\v.y<b.y/\0<tw a b v
    · rw [AX c1,AZ c2,AZ c2]
    · rw [AX c1,AX c2,AX c2,AX c1];rfl
  have e2:EZ (2*hY v) b a=-EZ (2*hY v) a b:=by unfold EZ;omega
  rw [e1,aY,e2] at e;split at e<;>rename_i c<;>first | rw [AZ c];omega | rw [AX c];omega
section
variable {p:Pl} (h:Valid p)
include h
theorem Valid.aB5:∃ D:Int,0<D/\∀ a∈p.AU,∀ k,k+1<(AV p a).length->hY ((AV p a).getD (k+1) AY)-hY ((AV p a).getD k AY)∣D:=by
 obtain ⟨D,h1,h2⟩:=adF (p.AU.flatMap fun a=>(List.range ((AV p a).length-1)).map fun k=>hY ((AV p a).getD (k+1) AY)-hY ((AV p a).getD k AY)) (fun x hx=>by
  obtain ⟨a,ha,hx⟩:=GY.1 hx;obtain ⟨k,hk,rfl⟩:=EM.1 hx;have hk:=F5.1 hk;intro e;exact (h.distinct ha (k:=k) AB).1 (MI (h.DW ha AB) (h.DW ha AB) AB))
 exact ⟨D,h1,fun a ha k hk=>h2 _ (GY.2 ⟨a,ha,EM.2 ⟨k,F5.2 AB,rfl⟩⟩)⟩
theorem Valid.aZ {z:Int->Int} {v:Pt} (hoff:Uk p z v) {a:Ar} (ha:a∈p.AU) (hza:z a.id≠0) {k:Nat} (hk:k<(AV p a).length):(AV p a).getD k AY≠v:=by
 have hl:=Eh p a;intro e;by_cases h1:k+1<(AV p a).length
 ·refine hoff a ha hza k h1 ?_;rw [e];exact ⟨Yy _ _,AB⟩
 ·obtain ⟨m,rfl⟩:∃ m,k=m+1:=⟨k-1,AB⟩;refine hoff a ha hza m AB ?_;rw [e];exact ⟨Yz _ _,AB⟩
theorem Valid.ar1 {z:Int->Int} {v:Pt} (nv:Bg v=true) (hoff:Uk p z v):Tn p z (2*hY v):=fun a ha hza k hk e =>
 h.aZ hoff ha hza hk (MI (h.DW ha hk) nv AB)
theorem Valid.ajE {z:Int->Int} (hz:Fv p z) {D:Int} (hD:0<D) (hd:∀ a∈p.AU,∀ k,k+1<(AV p a).length->hY ((AV p a).getD (k+1) AY)-hY ((AV p a).getD k AY)∣D)
  {v:Pt} (nv:Bg v=true) (hoff:Uk p z v):Qh p z v=Lh (NW p z D (2*hY v)) (2*D*v.x):=by
 have t:=h.oh hz (fun u=>-(if u.y=v.y/\v.x<u.x then 1 else 0));have bS:Lh (NW p z D (2*hY v)) (2*D*v.x)=DX p z (fun a b=>if 2*D*v.x<xE D a b (2*hY v) then EZ (2*hY v) a b else 0) :=
  pG p z D (2*hY v) (fun x s=>if 2*D*v.x<x then s else 0) (fun x c s=>by split<;>simp)
 rw [bS];have e:Qh p z v=DX p z (fun a b=>(if 2*D*v.x<xE D a b (2*hY v) then EZ (2*hY v) a b else 0)+(-(if b.y=v.y/\v.x<b.x then 1 else 0) - -(if a.y=v.y/\v.x<a.x then 1 else 0))):=by
  refine aAz fun a ha hza k hk=>?_;have:=aqz hD (h.DW ha (k:=k) AB) (h.DW ha hk) nv (h.distinct ha hk).1 (hd a ha k hk) (h.aZ hoff ha hza (k:=k) AB) (h.aZ hoff ha hza hk) (hoff a ha hza k hk)
  omega
 rw [e,iO p z (fun a b=>if 2*D*v.x<xE D a b (2*hY v) then EZ (2*hY v) a b else 0) (fun a b=>-(if b.y=v.y/\v.x<b.x then 1 else 0) - -(if a.y=v.y/\v.x<a.x then 1 else 0)),t,fP]
theorem Valid.ajF {z:Int->Int} (hz:Fv p z) (hw:∀ a∈p.AU,z a.id≠0->(Hz p z (-a.id)=0/\Hz p z a.id=1)\/(Hz p z (-a.id)=1/\Hz p z a.id=0))
  {D:Int} (hD:0<D) (hd:∀ a∈p.AU,∀ k,k+1<(AV p a).length->hY ((AV p a).getD (k+1) AY)-hY ((AV p a).getD k AY)∣D) {τ:Int} (hτ:Tn p z τ) (t:Int) :
  Lh (NW p z D τ) t=0\/Lh (NW p z D τ) t=1:=by
 obtain ⟨B,hB⟩:=adD (NW p z D τ);exact adC (h.ahj hz hw hD hd hτ) (B+t.natAbs) t (fun v hv _=>by have:=hB v hv;omega)
theorem Valid.ajG {z:Int->Int} (hz:Fv p z) (hw:∀ a∈p.AU,z a.id≠0->(Hz p z (-a.id)=0/\Hz p z a.id=1)\/(Hz p z (-a.id)=1/\Hz p z a.id=0))
  {v:Pt} (nv:Bg v=true) (hoff:Uk p z v):Qh p z v=0\/Qh p z v=1:=by
 obtain ⟨D,hD,hd⟩:=h.aB5;rw [h.ajE hz hD hd nv hoff];exact h.ajF hz hw hD hd (h.ar1 nv hoff) _
theorem Valid.ar2 {z:Int->Int} (hz:Fv p z) (hw:∀ a∈p.AU,z a.id≠0->(Hz p z (-a.id)=0/\Hz p z a.id=1)\/(Hz p z (-a.id)=1/\Hz p z a.id=0))
  {e:Int} (he:e∈BU p):Hz p z e=0\/Hz p z e=1:=by
 obtain ⟨a,ha,hor⟩:=Iy.1 he;by_cases h0:z a.id=0
 ·obtain ⟨D,hD,hd⟩:=h.aB5;have hl:=Eh p a;have hp:=h.Xh hz ha;have hk:0+1<(AV p a).length:=by omega
  have hne:hY ((AV p a).getD 0 AY)≠hY ((AV p a).getD (0+1) AY):=fun e=>(h.distinct ha hk).1 (MI (h.DW ha AB) (h.DW ha hk) e);have b:=(h.adG hz hD hd (Tn.odd z (τ:=2*min (hY ((AV p a).getD 0 AY)) (hY ((AV p a).getD (0+1) AY))+1) AB) ha hk AB).1;have c:=h.ajF hz hw hD hd (Tn.odd z (τ:=2*min (hY ((AV p a).getD 0 AY)) (hY ((AV p a).getD (0+1) AY))+1) AB) (xE D ((AV p a).getD 0 AY) ((AV p a).getD (0+1) AY) (2*min (hY ((AV p a).getD 0 AY)) (hY ((AV p a).getD (0+1) AY))+1));rw [b] at c;rcases hor with rfl | rfl<;>split at c<;>omega
 ·have:=hw a ha h0
  rcases hor with rfl | rfl<;>omega
theorem Valid.YQ {X:List Int} (hX:X∈CX p) (hp:0<F8 p X) {r d:Int} (hr:r∈X) (hd:d∈BU p) (hs:CQ p p.AU.length d=CQ p p.AU.length r):Hz p (CP X) d=if d∈X then 1 else 0:=by
 have h2:=(h.Gy hX).2;obtain ⟨d0,g1,g2,g3⟩:=h.aqv (h2 r hr);have hz:=h.WS hX;have hn:=(h.aqx hX hr g1 g2 g3).1 hp;have yD:∀ a∈p.AU,CP X a.id≠0->CQ p p.AU.length a.id=CQ p p.AU.length r:=by
  intro a ha hne;have hma:a.id∈BU p:=Iy.2 ⟨a,ha,.inl rfl⟩;by_cases c1:a.id∈X
  · exact h.Xk hX c1 hr
  ·by_cases c2:-a.id∈X
   · rw [<- h.WR hma];exact h.Xk hX c2 hr
   · exact absurd aAM hne
 have h0:=g3 _ hz yD;have:=h.acg hX hd g1 (by rw [hs,g2])
 rw [h0,AX hn] at this;omega
theorem Valid.iR {X:List Int} (hX:X∈CX p) {r:Int} (hr:r∈X) {a:Ar} (ha:a∈p.AU) (hne:CP X a.id≠0):CQ p p.AU.length a.id=CQ p p.AU.length r/\CQ p p.AU.length (-a.id)=CQ p p.AU.length r:=by
 have hma:a.id∈BU p:=Iy.2 ⟨a,ha,.inl rfl⟩;have e:=h.WR hma;by_cases c1:a.id∈X
 ·have:=h.Xk hX c1 hr
  exact ⟨this,by rw [e];exact this⟩
 ·by_cases c2:-a.id∈X
  ·have:=h.Xk hX c2 hr
   exact ⟨by rw [<- e];exact this,this⟩
  · exact absurd aAM hne
theorem Valid.ajH {X:List Int} (hX:X∈CX p) (hp:0<F8 p X):∀ a∈p.AU,CP X a.id≠0->(Hz p (CP X) (-a.id)=0/\Hz p (CP X) a.id=1)\/(Hz p (CP X) (-a.id)=1/\Hz p (CP X) a.id=0):=by
 intro a ha hne;obtain ⟨r,-,-,-,hr⟩:=h.Ph hX;have hma:a.id∈BU p:=Iy.2 ⟨a,ha,.inl rfl⟩;obtain ⟨s1,s2⟩:=h.iR hX hr ha hne;rw [h.YQ hX hp hr hma s1,h.YQ hX hp hr (WM hma) s2];unfold CP at hne;by_cases c1:a.id∈X<;>by_cases c2:-a.id∈X<;>simp [c1,c2] at hne ⊢
theorem Valid.ach {X:List Int} (hX:X∈CX p) (hp:0<F8 p X) {r e:Int} (hr:r∈X) (he:e∈BU p) (hs:CQ p p.AU.length e≠CQ p p.AU.length r) :
  (Hz p (CP X) e=0\/Hz p (CP X) e=1)/\∀ d∈BU p,CQ p p.AU.length d=CQ p p.AU.length e->Hz p (CP X) d=Hz p (CP X) e:=by
 refine ⟨h.ar2 (h.WS hX) (h.ajH hX hp) he,fun d hd hde=>?_⟩;have:=h.acg hX hd he hde
 have n1:e∉X:=fun c=>hs (h.Xk hX c hr);have n2:d∉X:=fun c=>hs (by rw [<- hde];exact h.Xk hX c hr);rw [AX n1,AX n2] at this;omega
theorem Valid.ah (z u:Int->Int) (d:Int):Hz p (fun i=>z i+u i) d=Hz p z d+Hz p u d:=aB4 p z u _
theorem Valid.aci (z:Int->Int) (d:Int):Hz p (fun i=>-z i) d=-Hz p z d:=aB2 p z _
theorem Valid.ajI {z:Int->Int} (h0:∀ a∈p.AU,z a.id=0) (d:Int):Hz p z d=0:=yC fun a ha=>.inl (h0 a ha)
theorem Valid.ar4 {z:Int->Int} (hz:Fv p z) (hne:∃ a∈p.AU,z a.id≠0):∃ a∈p.AU,z a.id≠0/\(Hz p z a.id=0\/Hz p z (-a.id)=0):=by
 obtain ⟨a,ha,hza⟩:=hne;obtain ⟨D,hD,hd⟩:=h.aB5;have hl:=Eh p a;have hk:0+1<(AV p a).length:=by omega
 have hnq:hY ((AV p a).getD 0 AY)≠hY ((AV p a).getD (0+1) AY):=fun e=>(h.distinct ha hk).1 (MI (h.DW ha AB) (h.DW ha hk) e);obtain ⟨τ,hτ⟩:=BO (2*min (hY ((AV p a).getD 0 AY)) (hY ((AV p a).getD (0+1) AY))+1);have hfr:Tn p z τ:=Tn.odd z AB;have hs0:EZ τ ((AV p a).getD 0 AY) ((AV p a).getD (0+1) AY)≠0:=by
  unfold EZ;by_cases c:hY ((AV p a).getD 0 AY)<hY ((AV p a).getD (0+1) AY)
  · rw [AZ AB,AX AB];omega
  · rw [AX AB,AZ AB];omega
 have hmem:(xE D ((AV p a).getD 0 AY) ((AV p a).getD (0+1) AY) τ,z a.id*EZ τ ((AV p a).getD 0 AY) ((AV p a).getD (0+1) AY))∈NW p z D τ :=
  GY.2 ⟨a,ha,EM.2 ⟨0,F5.2 AB,rfl⟩⟩
 obtain ⟨u,hu,hmax⟩:=adI (fun u:Int×Int=>u.1) ((NW p z D τ).filter (fun u=>decide (u.2≠0))) (by
  intro e;have:(xE D ((AV p a).getD 0 AY) ((AV p a).getD (0+1) AY) τ,z a.id*EZ τ ((AV p a).getD 0 AY) ((AV p a).getD (0+1) AY))∈(NW p z D τ).filter (fun u=>decide (u.2≠0)) :=
   QF.2 ⟨hmem,by
    rw [E8];intro e;rcases Wn.1 e with e | e
    · exact hza e
    · exact hs0 e⟩
  rw [e] at this
  cases this)
 rw [QF,E8] at hu;obtain ⟨hu,hu0⟩:=hu;have hb0:Lh (NW p z D τ) u.1=0:=by
  refine WO _ _ fun v hv=>?_;by_cases c:v.2=0
  · rw [c];split<;>rfl
  ·have:=hmax v (QF.2 ⟨hv,by rw [E8];exact c⟩)
   rw [AX AB]
 obtain ⟨c,hc,hu⟩:=GY.1 hu;obtain ⟨k,hk2,rfl⟩:=EM.1 hu;have hk2:=F5.1 hk2;simp only at hu0 hb0;have hz0:z c.id≠0:=fun e=>hu0 (by rw [e,JQ]);have hs1:EZ τ ((AV p c).getD k AY) ((AV p c).getD (k+1) AY)≠0:=fun e=>hu0 (by rw [e,KN]);have hsp:=aB0 (hfr c hc hz0 k AB) (hfr c hc hz0 (k+1) AB) hs1;have b:=(h.adG hz hD hd hfr hc (k:=k) AB (by
  rcases hsp with ⟨g1,g2,-⟩ | ⟨g1,g2,-⟩
  · exact .inl ⟨g1,g2⟩
  · exact .inr ⟨g1,g2⟩)).1
 rw [hb0] at b;refine ⟨c,hc,hz0,?_⟩;split at b
 · exact .inr b.symm
 · exact .inl b.symm
theorem Valid.ar5 {X Y:List Int} (hX:X∈CX p) (Pj:Y∈CX p) (iT:0<F8 p X) (gy:0<F8 p Y) (hXY:X≠Y) {v:Pt} (nv:Bg v=true)
  (oX:Uk p (CP X) v) (oY:Uk p (CP Y) v) (wX:Qh p (CP X) v=1) (wY:Qh p (CP Y) v=1):F8 p X≠F8 p Y:=by
 obtain ⟨x,hxd,-,-,hx⟩:=h.Ph hX;obtain ⟨y,hyd,-,-,hy⟩:=h.Ph Pj;have zX:=h.WS hX;have zY:=h.WS Pj;have both:∀ d,¬ (d∈X/\d∈Y):=fun d hd=>hXY (h.ad5 hX Pj hd.1 hd.2);have dm:∀ a∈p.AU,a.id∈BU p/\-a.id∈BU p:=fun a ha=>⟨Iy.2 ⟨a,ha,.inl rfl⟩,Iy.2 ⟨a,ha,.inr rfl⟩⟩;have sup:∀ a∈p.AU,CP X a.id+CP Y a.id≠0->(CQ p p.AU.length a.id=CQ p p.AU.length x/\CQ p p.AU.length (-a.id)=CQ p p.AU.length x)\/(CQ p p.AU.length a.id=CQ p p.AU.length y/\CQ p p.AU.length (-a.id)=CQ p p.AU.length y):=by
  intro a ha hne;by_cases c:CP X a.id=0
  · exact .inr (h.iR Pj hy ha AB)
  · exact .inl (h.iR hX hx ha c)
 have ajJ:Uk p (fun i=>CP X i+CP Y i) v:=fun a ha hne k hk=>by
  have hne:CP X a.id+CP Y a.id≠0:=hne;by_cases c:CP X a.id=0
  · exact oY a ha AB k hk
  · exact oX a ha c k hk
 have wS:Qh p (fun i=>CP X i+CP Y i) v=2:=by unfold Qh at *;rw [aB4,wX,wY];rfl
 have ajK:¬ ∀ a∈p.AU,CP X a.id+CP Y a.id≠0->(Hz p (CP X) (-a.id)+Hz p (CP Y) (-a.id)=0/\Hz p (CP X) a.id+Hz p (CP Y) a.id=1)\/(Hz p (CP X) (-a.id)+Hz p (CP Y) (-a.id)=1/\Hz p (CP X) a.id+Hz p (CP Y) a.id=0):=by
  intro hw;have:=h.ajG (zX.add zY) (fun a ha hne=>by rw [h.ah,h.ah];exact hw a ha hne) nv ajJ
  omega
 have jump:∀ a∈p.AU,Hz p (CP X) a.id-Hz p (CP X) (-a.id)=CP X a.id/\Hz p (CP Y) a.id-Hz p (CP Y) (-a.id)=CP Y a.id:=fun a ha=>⟨h.Xh zX ha,h.Xh zY ha⟩;by_cases hc:CQ p p.AU.length x=CQ p p.AU.length y
 ·exfalso;refine ajK fun a ha hne=>?_;have hs:CQ p p.AU.length a.id=CQ p p.AU.length x/\CQ p p.AU.length (-a.id)=CQ p p.AU.length x:=by
   rcases sup a ha hne with g | g
   · exact g
   · rw [hc];exact g
  have j:=jump a ha;have a1:=h.YQ hX iT hx (dm a ha).1 hs.1;have a2:=h.YQ hX iT hx (dm a ha).2 hs.2;have a3:=h.YQ Pj gy hy (dm a ha).1 (hs.1.trans hc);have a4:=h.YQ Pj gy hy (dm a ha).2 (hs.2.trans hc);have b1:=both a.id;have b2:=both (-a.id);have t1:Hz p (CP X) a.id+Hz p (CP Y) a.id=0\/Hz p (CP X) a.id+Hz p (CP Y) a.id=1:=by
   rw [a1,a3];by_cases c1:a.id∈X<;>by_cases c2:a.id∈Y<;>simp only [c1,c2,if_true,if_false] at b1 ⊢ <;> simp at b1 ⊢
  have t2:Hz p (CP X) (-a.id)+Hz p (CP Y) (-a.id)=0\/Hz p (CP X) (-a.id)+Hz p (CP Y) (-a.id)=1:=by
   rw [a2,a4];by_cases c1:-a.id∈X<;>by_cases c2:-a.id∈Y<;>simp only [c1,c2,if_true,if_false] at b2 ⊢ <;> simp at b2 ⊢
  omega
 ·obtain ⟨α01,αc⟩:=h.ach hX iT hx hyd (fun e=>hc e.symm);obtain ⟨β01,βc⟩:=h.ach Pj gy hy hxd hc;have Xl:∀ d∈BU p,CQ p p.AU.length d=CQ p p.AU.length x->Hz p (CP X) d=(if d∈X then 1 else 0)/\Hz p (CP Y) d=Hz p (CP Y) x:=fun d hd hs=>⟨h.YQ hX iT hx hd hs,βc d hd hs⟩;have YR:∀ d∈BU p,CQ p p.AU.length d=CQ p p.AU.length y->Hz p (CP Y) d=(if d∈Y then 1 else 0)/\Hz p (CP X) d=Hz p (CP X) y:=fun d hd hs=>⟨h.YQ Pj gy hy hd hs,αc d hd hs⟩;generalize Hz p (CP X) y=α at *;generalize Hz p (CP Y) x=β at *;have Qi:∀ (P:Prop) [Decidable P],(if P then (1:Int) else 0)=0\/(if P then (1:Int) else 0)=1:=fun P _=>by split<;>simp
  have diff:∀ {X Y:List Int} {x:Int},X∈CX p->Y∈CX p->Fv p (CP X)->Fv p (CP Y)->x∈X->x∈BU p ->
    (∀ a∈p.AU,CP X a.id + -CP Y a.id≠0->(Hz p (CP X) (-a.id)-Hz p (CP Y) (-a.id)=0\/Hz p (CP X) (-a.id)-Hz p (CP Y) (-a.id)=1)/\(Hz p (CP X) a.id-Hz p (CP Y) a.id=0\/Hz p (CP X) a.id-Hz p (CP Y) a.id=1)) ->
    Hz p (CP X) x-Hz p (CP Y) x=1->F8 p Y<F8 p X:=by
   intro X Y x hX Pj zX zY hx hxd hw h1;have hp:=(h.adH (zX.add zY.neg) (fun a ha hne=>by
    have j1:=h.Xh zX ha;have j2:=h.Xh zY ha;have hw:=hw a ha hne;have hne:CP X a.id + -CP Y a.id≠0:=hne;rw [h.ah,h.ah,h.aci,h.aci];omega)).2 (MZ fun hno=>by
     have:=h.ajI (z:=fun i=>CP X i + -CP Y i) (fun a ha=>MZ fun e=>hno ⟨a,ha,e⟩) x
     rw [h.ah,h.aci] at this;omega)
   rw [aB4,aB2,<- h.adK hX,<- h.adK Pj] at hp;omega
  have ayg:∀ {z:Int},True->True:=fun h=>h;rcases α01 with α0 | α1<;>rcases β01 with β0 | β1
  ·exfalso;refine ajK fun a ha hne=>?_;have j:=jump a ha;rcases sup a ha hne with g | g
   ·obtain ⟨e1,e2⟩:=Xl _ (dm a ha).1 g.1;obtain ⟨e3,e4⟩:=Xl _ (dm a ha).2 g.2;have i1:=Qi (a.id∈X);have i2:=Qi (-a.id∈X);omega
   ·obtain ⟨e1,e2⟩:=YR _ (dm a ha).1 g.1;obtain ⟨e3,e4⟩:=YR _ (dm a ha).2 g.2;have i1:=Qi (a.id∈Y);have i2:=Qi (-a.id∈Y);omega
  ·have:=diff Pj hX zY zX hy hyd (fun a ha hne=>by
    have hs:(CQ p p.AU.length a.id=CQ p p.AU.length x/\CQ p p.AU.length (-a.id)=CQ p p.AU.length x)\/(CQ p p.AU.length a.id=CQ p p.AU.length y/\CQ p p.AU.length (-a.id)=CQ p p.AU.length y):=by
     by_cases c:CP X a.id=0
     · exact .inr (h.iR Pj hy ha AB)
     · exact .inl (h.iR hX hx ha c)
    rcases hs with g | g
    ·obtain ⟨e1,e2⟩:=Xl _ (dm a ha).1 g.1;obtain ⟨e3,e4⟩:=Xl _ (dm a ha).2 g.2;have i1:=Qi (a.id∈X);have i2:=Qi (-a.id∈X);omega
    ·obtain ⟨e1,e2⟩:=YR _ (dm a ha).1 g.1;obtain ⟨e3,e4⟩:=YR _ (dm a ha).2 g.2;have i1:=Qi (a.id∈Y);have i2:=Qi (-a.id∈Y);omega) (by
    obtain ⟨e1,e2⟩:=YR y hyd rfl;rw [e1,e2,AZ hy];omega)
   omega
  ·have:=diff hX Pj zX zY hx hxd (fun a ha hne=>by
    have hs:(CQ p p.AU.length a.id=CQ p p.AU.length x/\CQ p p.AU.length (-a.id)=CQ p p.AU.length x)\/(CQ p p.AU.length a.id=CQ p p.AU.length y/\CQ p p.AU.length (-a.id)=CQ p p.AU.length y):=by
     by_cases c:CP X a.id=0
     · exact .inr (h.iR Pj hy ha AB)
     · exact .inl (h.iR hX hx ha c)
    rcases hs with g | g
    ·obtain ⟨e1,e2⟩:=Xl _ (dm a ha).1 g.1;obtain ⟨e3,e4⟩:=Xl _ (dm a ha).2 g.2;have i1:=Qi (a.id∈X);have i2:=Qi (-a.id∈X);omega
    ·obtain ⟨e1,e2⟩:=YR _ (dm a ha).1 g.1;obtain ⟨e3,e4⟩:=YR _ (dm a ha).2 g.2;have i1:=Qi (a.id∈Y);have i2:=Qi (-a.id∈Y);omega) (by
    obtain ⟨e1,e2⟩:=Xl x hxd rfl;rw [e1,e2,AZ hx];omega)
   omega
  ·exfalso;obtain ⟨a,ha,hne,hor⟩:=h.ar4 (zX.add zY) (MZ fun hno=>by
    have:=h.ajI (z:=fun i=>CP X i+CP Y i) (fun a ha=>MZ fun e=>hno ⟨a,ha,e⟩) x
    rw [h.ah] at this;obtain ⟨e1,e2⟩:=Xl x hxd rfl;rw [e1,e2,AZ hx] at this;omega)
   rw [h.ah,h.ah] at hor;rcases sup a ha hne with g | g
   ·obtain ⟨e1,e2⟩:=Xl _ (dm a ha).1 g.1;obtain ⟨e3,e4⟩:=Xl _ (dm a ha).2 g.2;have i1:=Qi (a.id∈X);have i2:=Qi (-a.id∈X);omega
   ·obtain ⟨e1,e2⟩:=YR _ (dm a ha).1 g.1;obtain ⟨e3,e4⟩:=YR _ (dm a ha).2 g.2;have i1:=Qi (a.id∈Y);have i2:=Qi (-a.id∈Y);omega
end
def GV (p:Pl) (d:Int):List Pt:=match findAr p.AU (Ee d) with
 | some a=>AV p a
 | none=>[]
def Ei (P:List Pt):List (Pt×Pt):=(List.range (P.length-1)).map fun k=>(P.getD k AY,P.getD (k+1) AY)
def DV (p:Pl) (X:List Int):List (Pt×Pt):=X.flatMap fun d=>Ei (GV p d)
def Iq (v a b:Pt):Bool:=decide ((a.y<=v.y/\v.y<b.y/\0<tw a b v)\/(b.y<=v.y/\v.y<a.y/\tw a b v<0))
def QS (v:Pt) (s:Bool×Bool) (q:Pt×Pt):Bool×Bool:=if EO q.1 q.2 v then (true,s.2) else if Iq v q.1 q.2 then (s.1,!s.2) else s
def SG (v:Pt) (l:List (Pt×Pt)):Bool×Bool:=l.foldl (QS v) (false,false)
def encS (p:Pl) (X:List Int) (v:Pt):Bool:=(SG v (DV p X)).2 && !(SG v (DV p X)).1
theorem ajL (v a b:Pt):Iq v a b=decide (SE v a b≠0):=by
 have t:tw b a v=-tw a b v:=by unfold tw;grind
 unfold Iq SE;rw [t];by_cases c1:a.y<=v.y/\v.y<b.y/\0<tw a b v
 · rw [AZ c1,JE (.inl c1)];rfl
 ·rw [AX c1];by_cases c2:b.y<=v.y/\v.y<a.y/\tw a b v<0
  · rw [AZ ⟨c2.1,c2.2.1,AB⟩,JE (.inr c2)];rfl
  · rw [AX AB,G8 (by rintro (h | h);exact c1 h;exact c2 h)];rfl
theorem ajM (v:Pt):∀ (l:List (Pt×Pt)) (s:Bool×Bool),(l.foldl (QS v) s).1=(s.1 || l.any fun q=>EO q.1 q.2 v)
 | [],s=>by simp
 | q::l,s=>by
  rw [U5,ajM v l,ab5];unfold QS;by_cases h:EO q.1 q.2 v=true
  · rw [AZ h,h];simp
  ·rw [AX h];split<;>simp [h]
theorem ajN (v:Pt):∀ (l:List (Pt×Pt)) (s:Bool×Bool),(l.any fun q=>EO q.1 q.2 v)=false ->
  (l.foldl (QS v) s).2=(s.2 != decide ((l.map fun q=>if Iq v q.1 q.2 then (1:Int) else 0).sum % 2=1))
 | [],s,_=>by simp
 | q::l,s,h=>by
  rw [ab5,Rq] at h;rw [U5,ajN v l _ h.2,Ez,I8];unfold QS;rw [AX (by rw [h.1];decide)];generalize (l.map fun q=>if Iq v q.1 q.2 then (1:Int) else 0).sum=n
  cases hp:Iq v q.1 q.2
  · rw [AX BG,AX BG,Int.zero_add]
  ·rw [AZ rfl,AZ rfl];by_cases hn:n % 2=1
   · rw [JE hn,G8 AB];cases s.2<;>rfl
   · rw [G8 hn,JE AB];cases s.2<;>rfl
theorem aB6 (v:Pt) (l:List (Pt×Pt)):((SG v l).2 && !(SG v l).1)=(!(l.any fun q=>EO q.1 q.2 v) && decide ((l.map fun q=>if Iq v q.1 q.2 then (1:Int) else 0).sum % 2=1)):=by
 unfold SG;rw [ajM]
 cases h:l.any fun q=>EO q.1 q.2 v
 · rw [ajN v l _ h];simp
 · simp
theorem aB7 {α:Type} (l:List α) (f g:α->Int) (h:∀ x∈l,f x % 2=g x % 2):(l.map f).sum % 2=(l.map g).sum % 2:=by
 induction l with
 | nil=>rfl
 | cons a l ih =>
  rw [Ez,I8,Ez,I8];have h1:=h a Ea;have h2:=ih fun x hx=>h x (Gn _ hx);omega
theorem pI {a b v:Pt} (na:Bg a=true) (nb:Bg b=true) (nv:Bg v=true):EO a b v=true↔Ip a b v:=by
 unfold EO Ip
 have:Dy [a,b,v]=true:=by simp [Dy,na,nb,nv]
 rw [this];simp [and_assoc]
section
variable {p:Pl} (h:Valid p)
include h
theorem Valid.Tq {d:Int} (hd:d∈BU p):∃ a∈p.AU,(d=a.id\/d=-a.id)/\GV p d=AV p a:=by
 obtain ⟨a,ha,e⟩:=Iy.1 hd;have hid:=(h.Gh ha).1;refine ⟨a,ha,e,?_⟩;unfold GV
 have:Ee d=a.id:=by unfold Ee;rcases e with rfl | rfl<;>split<;>omega
 rw [this,h.find ha]
theorem Valid.aB8 {X:List Int} (hX:∀ d∈X,d∈BU p) {q:Pt×Pt} (hq:q∈DV p X):∃ a∈p.AU,(a.id∈X\/-a.id∈X)/\∃ k,k+1<(AV p a).length/\q=((AV p a).getD k AY,(AV p a).getD (k+1) AY):=by
 obtain ⟨d,hd,hq⟩:=GY.1 hq;obtain ⟨a,ha,e,hp⟩:=h.Tq (hX d hd);rw [hp] at hq;obtain ⟨k,hk,rfl⟩:=EM.1 hq;have hk:=F5.1 hk;refine ⟨a,ha,?_,k,AB,rfl⟩;rcases e with rfl | rfl
 · exact .inl hd
 · exact .inr hd
theorem Valid.acj {X:List Int} {a:Ar} (ha:a∈p.AU) (hm:a.id∈X\/-a.id∈X) {k:Nat} (hk:k+1<(AV p a).length):((AV p a).getD k AY,(AV p a).getD (k+1) AY)∈DV p X:=by
 have hid:=(h.Gh ha).1;have e:∀ d,(d=a.id\/d=-a.id)->GV p d=AV p a:=fun d e=>by
  unfold GV
  have:Ee d=a.id:=by unfold Ee;rcases e with rfl | rfl<;>split<;>omega
  rw [this,h.find ha]
 rcases hm with hm | hm
 · exact GY.2 ⟨_,hm,by rw [e _ (.inl rfl)];exact EM.2 ⟨k,F5.2 AB,rfl⟩⟩
 · exact GY.2 ⟨_,hm,by rw [e _ (.inr rfl)];exact EM.2 ⟨k,F5.2 AB,rfl⟩⟩
theorem Valid.ar6 {X:List Int} (hX:X∈CX p) (v:Pt):((DV p X).map fun q=>if Iq v q.1 q.2 then (1:Int) else 0).sum % 2=Qh p (CP X) v % 2:=by
 obtain ⟨-,h2⟩:=h.Gy hX;have e1:((DV p X).map fun q=>if Iq v q.1 q.2 then (1:Int) else 0).sum=(X.map fun d=>Io (fun a b=>if Iq v a b then (1:Int) else 0) (GV p d)).sum:=by
  unfold DV;rw [rQ,adB];refine Gx _ _ _ fun d _=>?_;unfold Ei Io;rw [Mc];rfl
 rw [e1,h.aB3 hX];unfold Qh DX;refine aB7 _ _ _ fun a ha=>?_;have hid:=(h.Gh ha).1;have p1:GV p a.id=AV p a:=by
  unfold GV;rw [show Ee a.id=a.id by unfold Ee;split<;>omega,h.find ha]
 have p2:GV p (-a.id)=AV p a:=by
  unfold GV;rw [show Ee (-a.id)=a.id by unfold Ee;split<;>omega,h.find ha]
 rw [p1,p2];have e:Io (fun a b=>if Iq v a b then (1:Int) else 0) (AV p a) % 2=Io (SE v) (AV p a) % 2:=by
  unfold Io;refine aB7 _ _ _ fun k _=>?_
  show (if Iq v ((AV p a).getD k AY) ((AV p a).getD (k+1) AY)=true then (1:Int) else 0) % 2=_
  rw [ajL];unfold SE;split
  · rfl
  · split<;>rfl
 generalize Io (fun a b=>if Iq v a b then (1:Int) else 0) (AV p a)=s at *;generalize Io (SE v) (AV p a)=t at *;unfold CP;by_cases c1:a.id∈X<;>by_cases c2:-a.id∈X<;>simp only [c1,c2,if_true,if_false]<;>omega
theorem Valid.yE {X:List Int} (hX:X∈CX p) (hp:0<F8 p X) {v:Pt} (nv:Bg v=true) :
  encS p X v=true↔(∀ q∈DV p X,EO q.1 q.2 v=false)/\Qh p (CP X) v=1:=by
 obtain ⟨-,h2⟩:=h.Gy hX;unfold encS;rw [aB6,Em,E8,h.ar6 hX,Ru,Xu];constructor
 ·rintro ⟨g1,g2⟩;have g1':∀ q∈DV p X,EO q.1 q.2 v=false:=fun q hq=>by simpa using g1 q hq
  have hoff:Uk p (CP X) v:=fun a ha hne k hk hon=>by
   have hm:a.id∈X\/-a.id∈X:=by
    by_cases c1:a.id∈X
    · exact .inl c1
    ·by_cases c2:-a.id∈X
     · exact .inr c2
     · exact absurd aAM hne
   have:=g1' _ (h.acj ha hm hk)
   rw [(pI (h.DW ha AB) (h.DW ha hk) nv).2 hon] at this
   cases this
  have:=h.ajG (h.WS hX) (h.ajH hX hp) nv hoff
  exact ⟨g1',AB⟩
 ·rintro ⟨g1,g2⟩;exact ⟨fun q hq=>by rw [g1 q hq];decide,by rw [g2];rfl⟩
theorem Valid.yF {X:List Int} {v:Pt} (nv:Bg v=true) (g:∀ q∈DV p X,EO q.1 q.2 v=false):Uk p (CP X) v:=fun a ha hne k hk hon=>by
 have hm:a.id∈X\/-a.id∈X:=by
  by_cases c1:a.id∈X
  · exact .inl c1
  ·by_cases c2:-a.id∈X
   · exact .inr c2
   · exact absurd aAM hne
 have:=g _ (h.acj ha hm hk)
 rw [(pI (h.DW ha AB) (h.DW ha hk) nv).2 hon] at this
 cases this
theorem Valid.ar7 {X Y:List Int} (hX:X∈CX p) (Pj:Y∈CX p) (iT:0<F8 p X) (gy:0<F8 p Y) {v:Pt} (nv:Bg v=true)
  (eX:encS p X v=true) (eY:encS p Y v=true) (e:F8 p X=F8 p Y):X=Y:=by
 obtain ⟨g1,g2⟩:=(h.yE hX iT nv).1 eX;obtain ⟨g3,g4⟩:=(h.yE Pj gy nv).1 eY;exact MZ fun hne=>h.ar5 hX Pj iT gy hne nv (h.yF nv g1) (h.yF nv g3) g2 g4 e
end
section
variable {α:Type} (E:α->Bool) (t:α->Int)
def RF (b:Option α) (x:α):Option α:=if (E x && (match b with | none=>true | some y=>decide (t x<t y)))=true then some x else b
def Je (l:List α):Option α:=l.foldl (RF E t) none
theorem YS (l:List α) (x:α):Je E t (l++[x])=RF E t (Je E t l) x:=by unfold Je;rw [O9];rfl
theorem acn {l:List α} {k:Nat} (hk:k<l.length):Je E t (l.take (k+1))=RF E t (Je E t (l.take k)) l[k]:=by
 rw [En hk,YS]
theorem aco {P:List α->Prop} (h0:P []) (h1:∀ l x,P l->P (l++[x])) (l:List α):P l:=by
 have:∀ k,k<=l.length->P (l.take k):=by
  intro k
  induction k with
  | zero=>intro _;exact h0
  | succ k ih=>intro hk;rw [En (show k<l.length by omega)];exact h1 _ _ (ih AB)
 have:=this l.length (DT _)
 rwa [H8] at this
theorem ajO (l:List α):match Je E t l with
  | none=>∀ x∈l,E x=false
  | some x=>x∈l/\E x=true/\∀ y∈l,E y=true->t x<=t y:=by
 induction l using aco with
 | h0=>exact fun x hx=>by cases hx
 | h1 l x ih =>
  rw [YS];unfold RF
  cases hb:Je E t l with
  | none =>
   rw [hb] at ih;simp only [aar];by_cases hE:E x=true
   ·rw [AZ hE];refine ⟨Aw,hE,fun y hy iC=>?_⟩;rcases FZ.1 hy with hy | hy
    · rw [ih y hy] at iC;cases iC
    · rw [ED] at hy;subst hy;exact L8 _
   ·rw [AX hE];intro y hy;rcases FZ.1 hy with hy | hy
    · exact ih y hy
    · rw [ED] at hy;subst hy;simpa using hE
  | some z =>
   rw [hb] at ih;simp only [Em,E8];by_cases hE:E x=true/\t x<t z
   ·rw [AZ hE];refine ⟨Aw,hE.1,fun y hy iC=>?_⟩;rcases FZ.1 hy with hy | hy
    · have:=ih.2.2 y hy iC;omega
    · rw [ED] at hy;subst hy;exact L8 _
   ·rw [AX hE];refine ⟨Oa _ ih.1,ih.2.1,fun y hy iC=>?_⟩;rcases FZ.1 hy with hy | hy
    · exact ih.2.2 y hy iC
    ·rw [ED] at hy;subst hy;have:¬ t y<t z:=fun h=>hE ⟨iC,h⟩
     omega
theorem acp {l:List α}:Je E t l=none↔∀ x∈l,E x=false:=by
 have:=ajO E t l
 cases h:Je E t l with
 | none=>rw [h] at this;exact ⟨fun _=>this,fun _=>rfl⟩
 | some x =>
  rw [h] at this;refine ⟨fun h=>(by cases h),fun h0=>?_⟩;have h1:=h0 x this.1;rw [this.2.1] at h1
  cases h1
theorem aB9 {l:List α} {x:α} (h:Je E t l=some x):x∈l/\E x=true/\∀ y∈l,E y=true->t x<=t y:=by
 have:=ajO E t l
 rw [h] at this;exact this
theorem ar8 {l m:List α} (hp:l.Perm m) (hu:∀ x∈l,∀ y∈l,E x=true->E y=true->t x=t y->x=y):Je E t l=Je E t m:=by
 cases h1:Je E t l with
 | none =>
  have:=(acp E t).1 h1
  exact ((acp E t).2 fun x hx=>this x (hp.symm.subset hx)).symm
 | some x =>
  obtain ⟨a1,a2,a3⟩:=aB9 E t h1
  cases h2:Je E t m with
  | none =>
   have:=(acp E t).1 h2 x (hp.subset a1)
   rw [a2] at this;cases this
  | some y =>
   obtain ⟨b1,b2,b3⟩:=aB9 E t h2;have:=a3 y (hp.symm.subset b1) b2
   have:=b3 x (hp.subset a1) a2
   rw [hu x a1 y (hp.symm.subset b1) a2 b2 AB]
end
set_option linter.unusedSectionVars false
theorem yG {a b u:Pt} (hab:hY a<hY b) (h:Ip a b u):hY a<=hY u/\hY u<=hY b:=by
 obtain ⟨h0,x1,x2,y1,y2⟩:=h;have k1:(hY u-hY a)*(b.y-a.y)=(u.y-a.y)*(hY b-hY a):=by unfold tw at h0;unfold hY;grind
 have k2:(hY u-hY a)*(b.x-a.x)=(u.x-a.x)*(hY b-hY a):=by unfold tw at h0;unfold hY;grind
 have hN:0<hY b-hY a:=by omega
 have hd:hY b-hY a=8388608*(b.y-a.y)+(b.x-a.x):=by unfold hY;omega
 have hu:hY u-hY a=8388608*(u.y-a.y)+(u.x-a.x):=by unfold hY;omega
 have hv:hY b-hY u=8388608*(b.y-u.y)+(b.x-u.x):=by unfold hY;omega
 generalize hY b-hY a=N at *;have s:∀ {x y:Int},0<x->0<y->0<x*y:=fun h1 h2=>JO h1 h2;have s2:∀ {x y:Int},x<0->0<y->x*y<0:=fun h1 h2=>VI h1 h2;have s3:∀ {x y:Int},0<x->y<0->x*y<0:=fun h1 h2=>Wj h1 h2;have s4:∀ {x y:Int},x<0->y<0->0<x*y:=fun h1 h2=>rW h1 h2;have nn:∀ {x y:Int},0<=x->0<=y->0<=x*y:=fun h1 h2=>KQ h1 h2;have np:∀ {x y:Int},x<=0->0<=y->x*y<=0:=fun h1 h2=>aAB h1 h2;have k1':(hY b-hY u)*(b.y-a.y)=(b.y-u.y)*N:=by
  have:(hY b-hY u)+(hY u-hY a)=N:=by omega
  have e:(hY b-hY u)*(b.y-a.y)=N*(b.y-a.y)-(hY u-hY a)*(b.y-a.y):=by rw [<- this];grind
  rw [e,k1];grind
 have k2':(hY b-hY u)*(b.x-a.x)=(b.x-u.x)*N:=by
  have:(hY b-hY u)+(hY u-hY a)=N:=by omega
  have e:(hY b-hY u)*(b.x-a.x)=N*(b.x-a.x)-(hY u-hY a)*(b.x-a.x):=by rw [<- this];grind
  rw [e,k2];grind
 have key:∀ {m d q:Int},m*d=q*N->(0<d->0<=q)->(d<0->q<=0)->d≠0->0<=m:=by
  intro m d q e h1 h2 hd0;apply MZ;intro hm;rcases Int.lt_or_gt_of_ne hd0 with g | g
  ·have:=s4 (show m<0 by omega) g
   have:=np (h2 g) (show 0<=N by omega)
   omega
  ·have:=s2 (show m<0 by omega) g
   have:=nn (h1 g) (show 0<=N by omega)
   omega
 by_cases hy:b.y-a.y=0
 ·have hx:b.x-a.x≠0:=by omega
  have m1:=key k2 AB AB hx;have m2:=key k2' AB AB hx;omega
 ·have m1:=key k1 AB AB hy;have m2:=key k1' AB AB hy;omega
theorem ajP {u v a b s:Pt} (hne:u≠v) (ha:tw u v a=0) (hb:tw u v b=0) (hs:tw u v s=0):tw a b s=0:=by
 have h0:=Pt.aAi hne;unfold tw at *;exact parallel h0 (by grind) (by grind)
theorem ajQ {a b:Pt} (na:Bg a=true) (nb:Bg b=true) (hne:a≠b):∃ s t,((a=s/\b=t)\/(a=t/\b=s))/\hY s<hY t/\Bg s=true/\Bg t=true:=by
 rcases Ic (hY a) (hY b) with c | c | c
 · exact ⟨a,b,.inl ⟨rfl,rfl⟩,c,na,nb⟩
 · exact absurd (MI na nb c) hne
 · exact ⟨b,a,.inr ⟨rfl,rfl⟩,c,nb,na⟩
theorem yH {a b v:Pt} (h:Ip a b v):Ip b a v:=by
 obtain ⟨h0,h1⟩:=h;refine ⟨?_,by rw [sG,sH b.x,sG b.y,sH b.y];exact h1⟩
 have:tw b a v=-tw a b v:=by unfold tw;grind
 omega
theorem ajR {a b c d u v:Pt} (na:Bg a=true) (nb:Bg b=true) (nc:Bg c=true) (nd:Bg d=true) (nu:Bg u=true) (nv:Bg v=true) (hab:a≠b) (hcd:c≠d) (huv:u≠v)
  (h1:Ip a b u) (h2:Ip a b v) (h3:Ip c d u) (h4:Ip c d v):Me a b c d=2:=by
 obtain ⟨s,t,e1,l1,-,-⟩:=ajQ na nb hab;obtain ⟨x,y,e2,l2,-,-⟩:=ajQ nc nd hcd;have hh:hY u≠hY v:=fun e=>huv (MI nu nv e);have h1':Ip s t u:=by rcases e1 with ⟨rfl,rfl⟩ | ⟨rfl,rfl⟩;exact h1;exact yH h1
 have h2':Ip s t v:=by rcases e1 with ⟨rfl,rfl⟩ | ⟨rfl,rfl⟩;exact h2;exact yH h2
 have h3':Ip x y u:=by rcases e2 with ⟨rfl,rfl⟩ | ⟨rfl,rfl⟩;exact h3;exact yH h3
 have h4':Ip x y v:=by rcases e2 with ⟨rfl,rfl⟩ | ⟨rfl,rfl⟩;exact h4;exact yH h4
 have q1:=yG l1 h1';have q2:=yG l1 h2';have q3:=yG l2 h3';have q4:=yG l2 h4';have hst:s≠t:=fun e=>by rw [e] at l1;omega
 have hxy:x≠y:=fun e=>by rw [e] at l2;omega
 obtain ⟨p1,p2⟩:=pF hst h1'.1 h2'.1;obtain ⟨p3,p4⟩:=pF hxy h3'.1 h4'.1;exact ad9 e1 e2 l1 l2 (ajP huv p1 p2 p3) (ajP huv p1 p2 p4) AB AB
theorem ar9 {a b c d v:Pt} (na:Bg a=true) (nb:Bg b=true) (nc:Bg c=true) (nd:Bg d=true) (nv:Bg v=true) (hab:a≠b) (hcd:c≠d) (h1:Ip a b v) (h2:Ip c d v):Me a b c d≠0:=by
 intro h0;have lin:∀ {a b c d:Pt},Bg c=true->Bg d=true->c≠d->tw a b v=0->Ip c d v->(tw a b c<=0/\0<=tw a b d)\/(0<=tw a b c/\tw a b d<=0):=by
  intro a b c d nc nd hcd e ho;have go:∀ {c d:Pt},hY c<hY d->Ip c d v->(tw a b c<=0/\0<=tw a b d)\/(0<=tw a b c/\tw a b d<=0):=by
   intro c d hlt ho;have hb:=yG hlt ho;have k:tw a b c*(hY d-hY v)+tw a b d*(hY v-hY c)=0:=by
    have:=ho.1
    have k0:tw a b c*(hY d-hY v)+tw a b d*(hY v-hY c)=tw a b v*(hY d-hY c)-(hY b-hY a)*tw c d v:=by unfold tw hY;grind
    rw [k0,e,this];simp
   have p1:∀ {x y:Int},0<x->0<=y->0<=x*y:=fun h1 h2=>KQ AB h2;have p2:∀ {x y:Int},x<0->0<=y->x*y<=0:=fun h1 h2=>aAB AB h2;have p3:∀ {x y:Int},0<x->0<y->0<x*y:=fun h1 h2=>JO h1 h2;have p4:∀ {x y:Int},x<0->0<y->x*y<0:=fun h1 h2=>VI h1 h2;generalize tw a b c=u1 at *;generalize tw a b d=u2 at *;have hA:0<=hY d-hY v:=by omega
   have hB:0<=hY v-hY c:=by omega
   have hAB:0<hY d-hY v\/0<hY v-hY c:=by omega
   generalize hY d-hY v=A at *;generalize hY v-hY c=B at *;clear hb ho e hlt;rcases Ic u1 0 with g1 | g1 | g1
   ·rcases Ic u2 0 with g2 | g2 | g2
    ·exfalso;have:=p2 g1 hA;have:=p2 g2 hB
     rcases hAB with q | q
     · have:=p4 g1 q;omega
     · have:=p4 g2 q;omega
    · omega
    · omega
   · omega
   ·rcases Ic u2 0 with g2 | g2 | g2
    · omega
    · omega
    ·exfalso;have:=p1 g1 hA;have:=p1 g2 hB
     rcases hAB with q | q
     · have:=p3 g1 q;omega
     · have:=p3 g2 q;omega
  rcases Ic (hY c) (hY d) with g | g | g
  · exact go g ho
  · exact absurd (MI nc nd g) hcd
  · have:=go g (yH ho);omega
 have l1:=lin (a:=a) (b:=b) nc nd hcd h1.1 h2;have l2:=lin (a:=c) (b:=d) na nb hab h2.1 h1;have e:=vZ a b c d;by_cases hp:tw a b d-tw a b c=0
 ·have z1:tw a b c=0/\tw a b d=0:=by omega
  obtain ⟨z3,z4⟩:=pF hab z1.1 z1.2;unfold Me at h0;rw [AX (fun e=>hab e.1),AZ (by rw [acw];omega),AZ ⟨z1.1,z1.2,z3,z4⟩,Ve] at h0;have b1:=(acN a b v hab h1.1).1 ⟨h1.2.1,h1.2.2.1,h1.2.2.2.1,h1.2.2.2.2⟩;have b2:=(acN c d v hcd h2.1).1 ⟨h2.2.1,h2.2.2.1,h2.2.2.2.1,h2.2.2.2.2⟩;have g1:CB v (hi (lo a b) (lo c d))=false:=agj b1.1 b2.1;have g2:CB (lo (hi a b) (hi c d)) v=false:=aiA b1.2 b2.2;split at h0
  · cases h0
  ·rename_i hne;split at h0
   · cases h0
   ·rename_i hb;rw [Iz] at hb;apply hne;rw [<- Iz,MH] at g1 g2 hb;rw [Pt.ext_iff'];omega
 ·have NM:=ahp hab h0 hp;omega
theorem aqY {D:Int} (hD:0<D) {a b v:Pt} (na:Bg a=true) (nb:Bg b=true) (nv:Bg v=true) (hne:a≠b) (hd:hY b-hY a∣D) (hav:a≠v) (hbv:b≠v) (hoff:¬ Ip a b v) :
  (if 2*D*v.x<xE D a b (2*hY v) then EZ (2*hY v) a b else 0)=NC a b v:=by
 have key:∀ {a b:Pt},hY a<hY b->hY b-hY a∣D->hY a≠hY v->hY b≠hY v->(if 2*D*v.x<xE D a b (2*hY v) then EZ (2*hY v) a b else 0)=NC a b v:=by
  intro a b hab hd ha hb;have hx:=ajD hD (v:=v) hab hd;simp only [hx];unfold NC EZ;rw [AX (show ¬ (hY b<hY v/\hY v<hY a/\0<tw b a v) by omega)];by_cases c:0<tw a b v
  ·rw [AZ c];by_cases c1:hY a<hY v
   ·by_cases c2:hY v<hY b
    · rw [AZ AB,AX AB,AZ ⟨c1,c2,c⟩];rfl
    · rw [AX AB,AX AB,AX (fun e=>c2 e.2.1)];rfl
   · rw [AZ AB,AZ AB,AX (fun e=>c1 e.1)];rfl
  · rw [AX c,AX (fun e=>c e.2.2)]
 have ha:hY a≠hY v:=fun e=>hav (MI na nv e);have hb:hY b≠hY v:=fun e=>hbv (MI nb nv e);rcases Ic (hY a) (hY b) with c | c | c
 · exact key c hd ha hb
 · exact absurd (MI na nb c) hne
 ·have:=key c (by rw [show hY a-hY b=-(hY b-hY a) by omega];exact sF.2 hd) hb ha
  rw [aY,acv] at this;have e2:EZ (2*hY v) b a=-EZ (2*hY v) a b:=by unfold EZ;omega
  rw [e2] at this;split at this<;>rename_i g<;>first | (rw [AZ g];omega) | (rw [AX g];omega)
section
variable {p:Pl} (h:Valid p)
include h
theorem Valid.aqZ {z:Int->Int} (hz:Fv p z) {v:Pt} (nv:Bg v=true) (hoff:Uk p z v):Qh p z v=DX p z (fun a b=>NC a b v):=by
 obtain ⟨D,hD,hd⟩:=h.aB5;rw [h.ajE hz hD hd nv hoff];refine (pG p z D (2*hY v) (fun x s=>if 2*D*v.x<x then s else 0) (fun x c s=>by split<;>simp)).trans ?_;exact aAz fun a ha hza k hk=>aqY hD (h.DW ha (k:=k) AB) (h.DW ha hk) nv (h.distinct ha hk).1 (hd a ha k hk) (h.aZ hoff ha hza (k:=k) AB) (h.aZ hoff ha hza hk) (hoff a ha hza k hk)
theorem Valid.ajS {z:Int->Int} (hz:Fv p z) {v:Pt} (nv:Bg v=true) (hoff:Uk p z v) (u:Pt):LW p z v u=Qh p z v:=by
 rw [h.aqZ hz nv hoff];unfold LW;refine aAz fun a ha hza k hk=>?_;have e1:=h.aZ hoff ha hza (k:=k) AB;have e2:=h.aZ hoff ha hza hk;unfold Pe;rw [AX (fun e=>e1 e.1),AX (fun e=>e2 e.1)];omega
theorem Valid.acr {z:Int->Int} (hz:Fv p z) {a:Ar} (ha:a∈p.AU) {k:Nat} (hk:k<(AV p a).length) (hoff:Uk p z ((AV p a).getD k AY)) :
  Qh p z ((AV p a).getD k AY)=Hz p z a.id/\Hz p z (-a.id)=Hz p z a.id:=by
 have hl:=Eh p a;have nv:=h.DW ha hk;have hp:=h.Xh hz ha;have h0:z a.id=0:=MZ fun hne=>h.aZ hoff ha hne hk rfl;rw [h0] at hp;refine ⟨?_,AB⟩;by_cases h1:k+1<(AV p a).length
 ·have:=(h.yB hz ha h1).1
  rw [h.ajS hz nv hoff] at this;omega
 ·obtain ⟨m,rfl⟩:∃ m,k=m+1:=⟨k-1,AB⟩;have:=(h.yB hz ha (m:=m) hk).2
  rw [h.ajS hz nv hoff] at this;omega
theorem Valid.aqa {a c:Ar} (ha:a∈p.AU) (hc:c∈p.AU) (hne:a≠c) {k m:Nat} (hk:k+1<(AV p a).length) (hm:m+1<(AV p c).length) {v:Pt} (nv:Bg v=true)
  (h1:Ip ((AV p a).getD k AY) ((AV p a).getD (k+1) AY) v) (h2:Ip ((AV p c).getD m AY) ((AV p c).getD (m+1) AY) v):∃ n∈p.nodes,n.pt=v/\(a.fr=n.id\/a.dst=n.id)/\(c.fr=n.id\/c.dst=n.id):=by
 have go:∀ {a c:Ar} {k m:Nat},a∈p.AU->c∈p.AU->a≠c->k+1<(AV p a).length->m+1<(AV p c).length->Ip ((AV p a).getD k AY) ((AV p a).getD (k+1) AY) v->Ip ((AV p c).getD m AY) ((AV p c).getD (m+1) AY) v ->
   PU p (Dj p a k) (Dj p c m)=true->∃ n∈p.nodes,n.pt=v/\(a.fr=n.id\/a.dst=n.id)/\(c.fr=n.id\/c.dst=n.id):=by
  intro a c k m ha hc hne hk hm h1 h2 hj;have n1:=h.DW ha (k:=k) AB;have n2:=h.DW ha hk;have n3:=h.DW hc (k:=m) AB;have n4:=h.DW hc hm;have d1:=(h.distinct ha hk).1;have d2:=(h.distinct hc hm).1;have hm0:=ar9 n1 n2 n3 n4 nv d1 d2 h1 h2;unfold PU at hj;split at hj
  ·obtain ⟨x,hx,hat⟩:=PE.1 hj;unfold Oe Dj at hat;simp only [Em] at hat;obtain ⟨⟨⟨e1,e2⟩,o1⟩,o2⟩:=hat;have nx:=h.uf hx;rw [<- acL] at o1 o2;have o1:=(pI n1 n2 nx).1 o1;have o2:=(pI n3 n4 nx).1 o2;have ends:∀ {b:Ar},Vf b x.id=true->b.fr=x.id\/b.dst=x.id:=fun he=>by
    unfold Vf at he;simpa using he
   refine ⟨x,hx,?_,ends e1,ends e2⟩;apply MZ;intro hxv;have r1:=ajR n1 n2 n3 n4 nx nv d1 d2 hxv o1 h1 o2 h2;have r2:=ajR n3 n4 n1 n2 nx nv d2 d1 hxv o2 h2 o1 h1;exact h.ahf ha hc hk hm (fun e=>hne e.1) ⟨r1,r2⟩
  ·rw [beq_iff_eq] at hj;unfold Fp Dj at hj;rw [AZ (Yu n1 n2 n3 n4)] at hj;exact absurd hj hm0
 have hpw:=h.Qx.2.2;obtain ⟨i,hi,rfl⟩:=Dp.1 ha;obtain ⟨j,hj,rfl⟩:=Dp.1 hc;rw [Fe] at hpw;rcases PD i j with hij | hij | hij
 · exact go ha hc hne hk hm h1 h2 (hpw i j hi hj hij k hk m hm)
 · subst hij;exact absurd rfl hne
 ·obtain ⟨n,h1,h2,h3,h4⟩:=go hc ha (fun e=>hne e.symm) hm hk h2 h1 (hpw j i hj hi hij m hm k hk);exact ⟨n,h1,h2,h4,h3⟩
theorem Valid.ajT {X:List Int} (hX:X∈CX p) {r:Int} (hr:r∈X) {a:Ar} (ha:a∈p.AU) (hs:CQ p p.AU.length a.id≠CQ p p.AU.length r) {k:Nat} (hk:k<(AV p a).length) :
  ∀ q∈DV p X,EO q.1 q.2 ((AV p a).getD k AY)=false:=by
 intro q hq;obtain ⟨c,hc,hcm,m,hm,rfl⟩:=h.aB8 (h.Gy hX).2 hq;rw [<- Iz];intro ho;have hl:=Eh p a;have hcs:CQ p p.AU.length c.id=CQ p p.AU.length r:=by
  have hmc:c.id∈BU p:=Iy.2 ⟨c,hc,.inl rfl⟩;rcases hcm with g | g
  · exact h.Xk hX g hr
  · rw [<- h.WR hmc];exact h.Xk hX g hr
 have hne:a≠c:=by rintro rfl;exact hs hcs
 obtain ⟨j,hj,hon⟩:∃ j,j+1<(AV p a).length/\Ip ((AV p a).getD j AY) ((AV p a).getD (j+1) AY) ((AV p a).getD k AY):=by
  by_cases h1:k+1<(AV p a).length
  · exact ⟨k,h1,Yy _ _,AB⟩
  ·obtain ⟨j,rfl⟩:∃ j,k=j+1:=⟨k-1,AB⟩;exact ⟨j,hk,Yz _ _,AB⟩
 obtain ⟨n,hn,-,ea,ec⟩:=h.aqa ha hc hne hj hm (h.DW ha hk) hon ((pI (h.DW hc AB) (h.DW hc hm) (h.DW ha hk)).1 ho);have ajU:∀ {a:Ar},a∈p.AU->(a.fr=n.id\/a.dst=n.id)->∃ d∈DF p n.id,CQ p p.AU.length d=CQ p p.AU.length a.id:=by
  intro a ha hor;have hma:a.id∈BU p:=Iy.2 ⟨a,ha,.inl rfl⟩;rcases hor with e | e
  · exact ⟨a.id,(h.N8 hn).symm.subset (Qz.2 ⟨a,ha,.inl ⟨rfl,e⟩⟩),rfl⟩
  · exact ⟨-a.id,(h.N8 hn).symm.subset (Qz.2 ⟨a,ha,.inr ⟨rfl,e⟩⟩),h.WR hma⟩
 obtain ⟨d1,m1,q1⟩:=ajU ha ea;obtain ⟨d2,m2,q2⟩:=ajU hc ec;exact hs (by rw [<- q1,h.ad7 hn m1 m2,q2,hcs])
end
