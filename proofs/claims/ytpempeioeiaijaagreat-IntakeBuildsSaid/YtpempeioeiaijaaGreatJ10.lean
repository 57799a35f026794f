import Derived.Test.YtpempeioeiaijaaGreatJ09
set_option linter.unusedSimpArgs false
set_option linter.unusedVariables false
set_option maxRecDepth 100000
set_option maxHeartbeats 8000000
namespace Go.Proofs.YtpempeioeiaijaaGreat
open Go.RowKit Tryz
set_option linter.unusedSectionVars false
def UQ (v a b:Pt):Int:=if a.y<=v.y/\v.y<b.y/\0<tw a b v then 1 else if b.y<=v.y/\v.y<a.y/\0<tw b a v then -1 else 0
def RS (p:Pl) (z:Int->Int) (v:Pt):Int:=EC p z (UQ v)
def JE (a b v:Pt):Prop:=tw a b v=0/\min a.x b.x<=v.x/\v.x<=max a.x b.x/\min a.y b.y<=v.y/\v.y<=max a.y b.y
instance (a b v:Pt):Decidable (JE a b v):=by unfold JE;infer_instance
def UR (p:Pl) (z:Int->Int) (v:Pt):Prop:=∀ a∈p.AQ,z a.id≠0->∀ k,k+1<(AV p a).length->¬ JE ((AV p a).getD k AY) ((AV p a).getD (k+1) AY) v
theorem arj (a b v:Pt):xN a b (2*hY v)-2*v.x*(hY b-hY a)=16777216*tw a b v:=by unfold xN tw hY;grind
theorem ajV {D:Int} (hD:0<D) {a b v:Pt} (hab:hY a<hY b) (hd:hY b-hY a∣D):2*D*v.x<xE D a b (2*hY v)↔0<tw a b v:=by
 obtain ⟨q,hq⟩:=hd;unfold xE;have e1:D / (hY b-hY a)=q:=by rw [hq];exact acz _ AA
 have hx:=arj a b v;have hn:0<hY b-hY a:=AA
 rw [e1];generalize hY b-hY a=n at *;generalize xN a b (2*hY v)=X at *;have hqp:0<q:=by
  rcases Iw q 0 with g | g | g
  · have:=WE hn g;omega
  · subst g;rw [KO] at hq;omega
  · exact g
 have k:X*q-2*D*v.x=(X-2*v.x*n)*q:=by rw [hq];grind
 rw [hx] at k;have s1:0<tw a b v->0<16777216*tw a b v*q:=fun h=>Ji AA hqp;have s2:tw a b v<=0->16777216*tw a b v*q<=0:=fun h=>yR AA AA;generalize tw a b v=t at *;constructor<;>intro<;>omega
theorem aeb (p:Pl) (z u:Int->Int) (f:Pt->Pt->Int):EC p (fun i=>z i+u i) f=EC p z f+EC p u f:=by
 unfold EC;rw [<- RQ];exact IB _ _ _ fun a _=>by rw [Int.add_mul]
theorem GR.add {p:Pl} {z u:Int->Int} (h1:GR p z) (h2:GR p u):GR p (fun i=>z i+u i):=fun n hn=>by
 have e1:=h1 n hn;have e2:=h2 n hn;refine (IB _ _ (fun a:Ar=>z a.id*((if a.dst=n.id then (1:Int) else 0)-(if a.fr=n.id then 1 else 0))+u a.id*((if a.dst=n.id then (1:Int) else 0)-(if a.fr=n.id then 1 else 0))) (fun a _=>Int.add_mul _ _ _)).trans ?_;rw [RQ,e1,e2];rfl
theorem GR.neg {p:Pl} {z:Int->Int} (h1:GR p z):GR p (fun i=>-z i):=fun n hn=>by
 have e1:=h1 n hn;refine (IB _ _ (fun a:Ar=>-(z a.id*((if a.dst=n.id then (1:Int) else 0)-(if a.fr=n.id then 1 else 0)))) (fun a _=>SA _ _)).trans ?_;rw [U2,e1];rfl
theorem ark {D:Int} (hD:0<D) {a b v:Pt} (na:CJ a=true) (nb:CJ b=true) (nv:CJ v=true) (hne:a≠b) (hd:hY b-hY a∣D) (hav:a≠v) (hbv:b≠v) (hoff:¬ JE a b v) :
  UQ v a b=(if 2*D*v.x<xE D a b (2*hY v) then Ef (2*hY v) a b else 0)+((if a.y=v.y/\v.x<a.x then 1 else 0)-(if b.y=v.y/\v.x<b.x then 1 else 0)):=by
 have key:∀ {a b:Pt},CJ a=true->CJ b=true->hY a<hY b->hY b-hY a∣D->a≠v->b≠v->¬ JE a b v ->
   UQ v a b=(if 2*D*v.x<xE D a b (2*hY v) then Ef (2*hY v) a b else 0)+((if a.y=v.y/\v.x<a.x then 1 else 0)-(if b.y=v.y/\v.x<b.x then 1 else 0)):=by
  intro a b na nb hab hd hav hbv hoff;have hx:=ajV hD (v:=v) hab hd;simp only [hx];rw [SH] at na nb nv;have ha:¬ (a.x=v.x/\a.y=v.y):=fun e=>hav (Pt.ext_iff'.2 e);have hb:¬ (b.x=v.x/\b.y=v.y):=fun e=>hbv (Pt.ext_iff'.2 e);have tba:tw b a v=-tw a b v:=by unfold tw;grind
  unfold UQ Ef JE at *;rw [tba];unfold hY at *;have s1:a.y=v.y->tw a b v=(b.y-a.y)*(a.x-v.x):=fun e=>by unfold tw;rw [e];grind
  have s2:b.y=v.y->tw a b v=(b.y-a.y)*(b.x-v.x):=fun e=>by unfold tw;rw [e];grind
  have p1:∀ {x y:Int},0<x->0<y->0<x*y:=fun h1 h2=>Ji h1 h2;have p2:∀ {x y:Int},0<x->y<0->x*y<0:=fun h1 h2=>WE h1 h2;generalize tw a b v=t at *;by_cases hy:a.y=b.y
  ·have hx2:a.x<b.x:=AA
   have e1:¬ (a.y<=v.y/\v.y<b.y/\0<t):=AA
   have e2:¬ (b.y<=v.y/\v.y<a.y/\0 < -t):=AA
   rw [AX e1,AX e2];by_cases hv:a.y=v.y
   ·have t0:t=0:=by rw [s1 hv,hy,yj,Jy]
    rw [AX (show ¬ 0<t by omega)];by_cases c:v.x<a.x
    · rw [AZ ⟨hv,c⟩,AZ AA];rfl
    ·have:¬ v.x<b.x:=fun c2=>hoff ⟨t0,AA⟩
     rw [AX AA,AX AA];rfl
   ·rw [AX (show ¬ (a.y=v.y/\v.x<a.x) by omega),AX (show ¬ (b.y=v.y/\v.x<b.x) by omega)];split
    ·by_cases c:v.y<a.y
     · rw [AZ AA,AZ AA];rfl
     · rw [AX AA,AX AA];rfl
    · rfl
  ·have hy:a.y<b.y:=AA
   rw [AX (show ¬ (b.y<=v.y/\v.y<a.y/\0 < -t) by omega)];by_cases c1:a.y=v.y
   ·have e:=s1 c1;rw [AX (show ¬ (b.y=v.y/\v.x<b.x) by omega)];by_cases c2:v.x<a.x
    ·have:=p1 (show 0<b.y-a.y by omega) (show 0<a.x-v.x by omega)
     rw [AZ (show a.y<=v.y/\v.y<b.y/\0<t by omega),AZ (show 0<t by omega),AZ AA,AZ AA,AZ ⟨c1,c2⟩];rfl
    ·have:=p2 (show 0<b.y-a.y by omega) (show a.x-v.x<0 by omega)
     rw [AX (show ¬ (a.y<=v.y/\v.y<b.y/\0<t) by omega),AX (show ¬ 0<t by omega),AX AA];rfl
   ·rw [AX (show ¬ (a.y=v.y/\v.x<a.x) by omega)];by_cases c2:b.y=v.y
    ·have e:=s2 c2;rw [AX (show ¬ (a.y<=v.y/\v.y<b.y/\0<t) by omega)];by_cases c3:v.x<b.x
     ·have:=p1 (show 0<b.y-a.y by omega) (show 0<b.x-v.x by omega)
      rw [AZ (show 0<t by omega),AZ AA,AX AA,AZ ⟨c2,c3⟩];rfl
     ·have:=p2 (show 0<b.y-a.y by omega) (show b.x-v.x<0 by omega)
      rw [AX (show ¬ 0<t by omega),AX AA];rfl
    ·rw [AX (show ¬ (b.y=v.y/\v.x<b.x) by omega)];by_cases c3:0<t
     ·rw [AZ c3];by_cases c4:a.y<v.y/\v.y<b.y
      · rw [AZ AA,AZ AA,AX AA];rfl
      ·rw [AX AA];by_cases c5:v.y<a.y
       · rw [AZ AA,AZ AA];rfl
       · rw [AX AA,AX AA];rfl
     · rw [AX AA,AX c3];rfl
 rcases Iw (hY a) (hY b) with c | c | c
 · exact key na nb c hd hav hbv hoff
 · exact absurd (Md na nb c) hne
 ·have arl:¬ JE b a v:=fun e=>hoff (by
   obtain ⟨e1,e2⟩:=e;refine ⟨?_,by rw [ql,qm a.x,ql a.y,qm a.y];exact e2⟩
   have:tw b a v=-tw a b v:=by unfold tw;grind
   omega)
  have e:=key nb na c (by rw [show hY a-hY b=-(hY b-hY a) by omega];exact qj.2 hd) hbv hav arl;have e1:UQ v b a=-UQ v a b:=by
   unfold UQ;by_cases c1:b.y<=v.y/\v.y<a.y/\0<tw b a v
   · rw [AZ c1,AX AA,AZ c1];rfl
   ·by_cases c2:a.y<=v.y/\v.y<b.y/\0<tw a b v
    · rw [AX c1,AZ c2,AZ c2]
    · rw [AX c1,AX c2,AX c2,AX c1];rfl
  have e2:Ef (2*hY v) b a=-Ef (2*hY v) a b:=by unfold Ef;omega
  rw [e1,bV,e2] at e;split at e<;>rename_i c<;>first | rw [AZ c];omega | rw [AX c];omega
section
variable {p:Pl} (h:Valid p)
include h
theorem Valid.aad:∃ D:Int,0<D/\∀ a∈p.AQ,∀ k,k+1<(AV p a).length->hY ((AV p a).getD (k+1) AY)-hY ((AV p a).getD k AY)∣D:=by
 obtain ⟨D,h1,h2⟩:=aeS (p.AQ.flatMap fun a=>(List.range ((AV p a).length-1)).map fun k=>hY ((AV p a).getD (k+1) AY)-hY ((AV p a).getD k AY)) (fun x hx=>by
  obtain ⟨a,ha,hx⟩:=Ii.1 hx;obtain ⟨k,hk,rfl⟩:=Ez.1 hx;have hk:=FQ.1 hk;intro e;exact (h.distinct ha (k:=k) AA).1 (Md (h.Dh ha AA) (h.Dh ha AA) AA))
 exact ⟨D,h1,fun a ha k hk=>h2 _ (Ii.2 ⟨a,ha,Ez.2 ⟨k,FQ.2 AA,rfl⟩⟩)⟩
theorem Valid.bW {z:Int->Int} {v:Pt} (hoff:UR p z v) {a:Ar} (ha:a∈p.AQ) (hza:z a.id≠0) {k:Nat} (hk:k<(AV p a).length):(AV p a).getD k AY≠v:=by
 have hl:=Fa p a;intro e;by_cases h1:k+1<(AV p a).length
 ·refine hoff a ha hza k h1 ?_;rw [e];exact ⟨Xv _ _,AA⟩
 ·obtain ⟨m,rfl⟩:∃ m,k=m+1:=⟨k-1,AA⟩;refine hoff a ha hza m AA ?_;rw [e];exact ⟨Xw _ _,AA⟩
theorem Valid.ar9 {z:Int->Int} {v:Pt} (nv:CJ v=true) (hoff:UR p z v):SY p z (2*hY v):=fun a ha hza k hk e =>
 h.bW hoff ha hza hk (Md (h.Dh ha hk) nv AA)
theorem Valid.ajW {z:Int->Int} (hz:GR p z) {D:Int} (hD:0<D) (hd:∀ a∈p.AQ,∀ k,k+1<(AV p a).length->hY ((AV p a).getD (k+1) AY)-hY ((AV p a).getD k AY)∣D)
  {v:Pt} (nv:CJ v=true) (hoff:UR p z v):RS p z v=La (NS p z D (2*hY v)) (2*D*v.x):=by
 have t:=h.tu hz (fun u=>-(if u.y=v.y/\v.x<u.x then 1 else 0));have bS:La (NS p z D (2*hY v)) (2*D*v.x)=EC p z (fun a b=>if 2*D*v.x<xE D a b (2*hY v) then Ef (2*hY v) a b else 0) :=
  mO p z D (2*hY v) (fun x s=>if 2*D*v.x<x then s else 0) (fun x c s=>by split<;>simp)
 rw [bS];have e:RS p z v=EC p z (fun a b=>(if 2*D*v.x<xE D a b (2*hY v) then Ef (2*hY v) a b else 0)+(-(if b.y=v.y/\v.x<b.x then 1 else 0) - -(if a.y=v.y/\v.x<a.x then 1 else 0))):=by
  refine ab6 fun a ha hza k hk=>?_;have:=ark hD (h.Dh ha (k:=k) AA) (h.Dh ha hk) nv (h.distinct ha hk).1 (hd a ha k hk) (h.bW hoff ha hza (k:=k) AA) (h.bW hoff ha hza hk) (hoff a ha hza k hk)
  omega
 rw [e,fV p z (fun a b=>if 2*D*v.x<xE D a b (2*hY v) then Ef (2*hY v) a b else 0) (fun a b=>-(if b.y=v.y/\v.x<b.x then 1 else 0) - -(if a.y=v.y/\v.x<a.x then 1 else 0)),t,eF]
theorem Valid.ajX {z:Int->Int} (hz:GR p z) (hw:∀ a∈p.AQ,z a.id≠0->(Hz p z (-a.id)=0/\Hz p z a.id=1)\/(Hz p z (-a.id)=1/\Hz p z a.id=0))
  {D:Int} (hD:0<D) (hd:∀ a∈p.AQ,∀ k,k+1<(AV p a).length->hY ((AV p a).getD (k+1) AY)-hY ((AV p a).getD k AY)∣D) {τ:Int} (hτ:SY p z τ) (t:Int) :
  La (NS p z D τ) t=0\/La (NS p z D τ) t=1:=by
 obtain ⟨B,hB⟩:=aeQ (NS p z D τ);exact aeP (h.ajU hz hw hD hd hτ) (B+t.natAbs) t (fun v hv _=>by have:=hB v hv;omega)
theorem Valid.ajY {z:Int->Int} (hz:GR p z) (hw:∀ a∈p.AQ,z a.id≠0->(Hz p z (-a.id)=0/\Hz p z a.id=1)\/(Hz p z (-a.id)=1/\Hz p z a.id=0))
  {v:Pt} (nv:CJ v=true) (hoff:UR p z v):RS p z v=0\/RS p z v=1:=by
 obtain ⟨D,hD,hd⟩:=h.aad;rw [h.ajW hz hD hd nv hoff];exact h.ajX hz hw hD hd (h.ar9 nv hoff) _
theorem Valid.arA {z:Int->Int} (hz:GR p z) (hw:∀ a∈p.AQ,z a.id≠0->(Hz p z (-a.id)=0/\Hz p z a.id=1)\/(Hz p z (-a.id)=1/\Hz p z a.id=0))
  {e:Int} (he:e∈Bj p):Hz p z e=0\/Hz p z e=1:=by
 obtain ⟨a,ha,hor⟩:=J9.1 he;by_cases h0:z a.id=0
 ·obtain ⟨D,hD,hd⟩:=h.aad;have hl:=Fa p a;have hp:=h.XO hz ha;have hk:0+1<(AV p a).length:=AA
  have hne:hY ((AV p a).getD 0 AY)≠hY ((AV p a).getD (0+1) AY):=fun e=>(h.distinct ha hk).1 (Md (h.Dh ha AA) (h.Dh ha hk) e);have b:=(h.aeT hz hD hd (SY.odd z (τ:=2*min (hY ((AV p a).getD 0 AY)) (hY ((AV p a).getD (0+1) AY))+1) AA) ha hk AA).1;have c:=h.ajX hz hw hD hd (SY.odd z (τ:=2*min (hY ((AV p a).getD 0 AY)) (hY ((AV p a).getD (0+1) AY))+1) AA) (xE D ((AV p a).getD 0 AY) ((AV p a).getD (0+1) AY) (2*min (hY ((AV p a).getD 0 AY)) (hY ((AV p a).getD (0+1) AY))+1));rw [b] at c;rcases hor with rfl | rfl<;>split at c<;>omega
 ·have:=hw a ha h0
  rcases hor with rfl | rfl<;>omega
theorem Valid.Xd {X:List Int} (hX:X∈Cb p) (hp:0<F8 p X) {r d:Int} (hr:r∈X) (hd:d∈Bj p) (hs:CW p p.AQ.length d=CW p p.AQ.length r):Hz p (CX X) d=if d∈X then 1 else 0:=by
 have h2:=(h.Ic hX).2;obtain ⟨d0,g1,g2,g3⟩:=h.arf (h2 r hr);have hz:=h.WM hX;have hn:=(h.ari hX hr g1 g2 g3).1 hp;have uK:∀ a∈p.AQ,CX X a.id≠0->CW p p.AQ.length a.id=CW p p.AQ.length r:=by
  intro a ha hne;have hma:a.id∈Bj p:=J9.2 ⟨a,ha,.inl rfl⟩;by_cases c1:a.id∈X
  · exact h.WO hX c1 hr
  ·by_cases c2:-a.id∈X
   · rw [<- h.Vq hma];exact h.WO hX c2 hr
   · exact absurd yH hne
 have h0:=g3 _ hz uK;have:=h.aea hX hd g1 (by rw [hs,g2])
 rw [h0,AX hn] at this;omega
theorem Valid.gI {X:List Int} (hX:X∈Cb p) {r:Int} (hr:r∈X) {a:Ar} (ha:a∈p.AQ) (hne:CX X a.id≠0):CW p p.AQ.length a.id=CW p p.AQ.length r/\CW p p.AQ.length (-a.id)=CW p p.AQ.length r:=by
 have hma:a.id∈Bj p:=J9.2 ⟨a,ha,.inl rfl⟩;have e:=h.Vq hma;by_cases c1:a.id∈X
 ·have:=h.WO hX c1 hr
  exact ⟨this,by rw [e];exact this⟩
 ·by_cases c2:-a.id∈X
  ·have:=h.WO hX c2 hr
   exact ⟨by rw [<- e];exact this,this⟩
  · exact absurd yH hne
theorem Valid.ajZ {X:List Int} (hX:X∈Cb p) (hp:0<F8 p X):∀ a∈p.AQ,CX X a.id≠0->(Hz p (CX X) (-a.id)=0/\Hz p (CX X) a.id=1)\/(Hz p (CX X) (-a.id)=1/\Hz p (CX X) a.id=0):=by
 intro a ha hne;obtain ⟨r,-,-,-,hr⟩:=h.Pe hX;have hma:a.id∈Bj p:=J9.2 ⟨a,ha,.inl rfl⟩;obtain ⟨s1,s2⟩:=h.gI hX hr ha hne;rw [h.Xd hX hp hr hma s1,h.Xd hX hp hr (Vm hma) s2];unfold CX at hne;by_cases c1:a.id∈X<;>by_cases c2:-a.id∈X<;>simp [c1,c2] at hne ⊢
theorem Valid.aec {X:List Int} (hX:X∈Cb p) (hp:0<F8 p X) {r e:Int} (hr:r∈X) (he:e∈Bj p) (hs:CW p p.AQ.length e≠CW p p.AQ.length r) :
  (Hz p (CX X) e=0\/Hz p (CX X) e=1)/\∀ d∈Bj p,CW p p.AQ.length d=CW p p.AQ.length e->Hz p (CX X) d=Hz p (CX X) e:=by
 refine ⟨h.arA (h.WM hX) (h.ajZ hX hp) he,fun d hd hde=>?_⟩;have:=h.aea hX hd he hde
 have n1:e∉X:=fun c=>hs (h.WO hX c hr);have n2:d∉X:=fun c=>hs (by rw [<- hde];exact h.WO hX c hr);rw [AX n1,AX n2] at this;omega
theorem Valid.bY (z u:Int->Int) (d:Int):Hz p (fun i=>z i+u i) d=Hz p z d+Hz p u d:=aeb p z u _
theorem Valid.aed (z:Int->Int) (d:Int):Hz p (fun i=>-z i) d=-Hz p z d:=aac p z _
theorem Valid.aja {z:Int->Int} (h0:∀ a∈p.AQ,z a.id=0) (d:Int):Hz p z d=0:=aeV fun a ha=>.inl (h0 a ha)
theorem Valid.arB {z:Int->Int} (hz:GR p z) (hne:∃ a∈p.AQ,z a.id≠0):∃ a∈p.AQ,z a.id≠0/\(Hz p z a.id=0\/Hz p z (-a.id)=0):=by
 obtain ⟨a,ha,hza⟩:=hne;obtain ⟨D,hD,hd⟩:=h.aad;have hl:=Fa p a;have hk:0+1<(AV p a).length:=AA
 have hnq:hY ((AV p a).getD 0 AY)≠hY ((AV p a).getD (0+1) AY):=fun e=>(h.distinct ha hk).1 (Md (h.Dh ha AA) (h.Dh ha hk) e);obtain ⟨τ,hτ⟩:=BR (2*min (hY ((AV p a).getD 0 AY)) (hY ((AV p a).getD (0+1) AY))+1);have hfr:SY p z τ:=SY.odd z AA;have hs0:Ef τ ((AV p a).getD 0 AY) ((AV p a).getD (0+1) AY)≠0:=by
  unfold Ef;by_cases c:hY ((AV p a).getD 0 AY)<hY ((AV p a).getD (0+1) AY)
  · rw [AZ AA,AX AA];omega
  · rw [AX AA,AZ AA];omega
 have hmem:(xE D ((AV p a).getD 0 AY) ((AV p a).getD (0+1) AY) τ,z a.id*Ef τ ((AV p a).getD 0 AY) ((AV p a).getD (0+1) AY))∈NS p z D τ :=
  Ii.2 ⟨a,ha,Ez.2 ⟨0,FQ.2 AA,rfl⟩⟩
 obtain ⟨u,hu,hmax⟩:=aeW (fun u:Int×Int=>u.1) ((NS p z D τ).filter (fun u=>decide (u.2≠0))) (by
  intro e;have:(xE D ((AV p a).getD 0 AY) ((AV p a).getD (0+1) AY) τ,z a.id*Ef τ ((AV p a).getD 0 AY) ((AV p a).getD (0+1) AY))∈(NS p z D τ).filter (fun u=>decide (u.2≠0)) :=
   QN.2 ⟨hmem,by
    rw [Dq];intro e;rcases WG.1 e with e | e
    · exact hza e
    · exact hs0 e⟩
  rw [e] at this
  cases this)
 rw [QN,Dq] at hu;obtain ⟨hu,hu0⟩:=hu;have hb0:La (NS p z D τ) u.1=0:=by
  refine XM _ _ fun v hv=>?_;by_cases c:v.2=0
  · rw [c];split<;>rfl
  ·have:=hmax v (QN.2 ⟨hv,by rw [Dq];exact c⟩)
   rw [AX AA]
 obtain ⟨c,hc,hu⟩:=Ii.1 hu;obtain ⟨k,hk2,rfl⟩:=Ez.1 hu;have hk2:=FQ.1 hk2;simp only at hu0 hb0;have hz0:z c.id≠0:=fun e=>hu0 (by rw [e,Jy]);have hs1:Ef τ ((AV p c).getD k AY) ((AV p c).getD (k+1) AY)≠0:=fun e=>hu0 (by rw [e,KO]);have hsp:=ab7 (hfr c hc hz0 k AA) (hfr c hc hz0 (k+1) AA) hs1;have b:=(h.aeT hz hD hd hfr hc (k:=k) AA (by
  rcases hsp with ⟨g1,g2,-⟩ | ⟨g1,g2,-⟩
  · exact .inl ⟨g1,g2⟩
  · exact .inr ⟨g1,g2⟩)).1
 rw [hb0] at b;refine ⟨c,hc,hz0,?_⟩;split at b
 · exact .inr b.symm
 · exact .inl b.symm
theorem Valid.arC {X Y:List Int} (hX:X∈Cb p) (Nk:Y∈Cb p) (gJ:0<F8 p X) (gK:0<F8 p Y) (hXY:X≠Y) {v:Pt} (nv:CJ v=true)
  (oX:UR p (CX X) v) (oY:UR p (CX Y) v) (wX:RS p (CX X) v=1) (wY:RS p (CX Y) v=1):F8 p X≠F8 p Y:=by
 obtain ⟨x,hxd,-,-,hx⟩:=h.Pe hX;obtain ⟨y,hyd,-,-,hy⟩:=h.Pe Nk;have zX:=h.WM hX;have zY:=h.WM Nk;have both:∀ d,¬ (d∈X/\d∈Y):=fun d hd=>hXY (h.ab3 hX Nk hd.1 hd.2);have dm:∀ a∈p.AQ,a.id∈Bj p/\-a.id∈Bj p:=fun a ha=>⟨J9.2 ⟨a,ha,.inl rfl⟩,J9.2 ⟨a,ha,.inr rfl⟩⟩;have sup:∀ a∈p.AQ,CX X a.id+CX Y a.id≠0->(CW p p.AQ.length a.id=CW p p.AQ.length x/\CW p p.AQ.length (-a.id)=CW p p.AQ.length x)\/(CW p p.AQ.length a.id=CW p p.AQ.length y/\CW p p.AQ.length (-a.id)=CW p p.AQ.length y):=by
  intro a ha hne;by_cases c:CX X a.id=0
  · exact .inr (h.gI Nk hy ha AA)
  · exact .inl (h.gI hX hx ha c)
 have ajb:UR p (fun i=>CX X i+CX Y i) v:=fun a ha hne k hk=>by
  have hne:CX X a.id+CX Y a.id≠0:=hne;by_cases c:CX X a.id=0
  · exact oY a ha AA k hk
  · exact oX a ha c k hk
 have wS:RS p (fun i=>CX X i+CX Y i) v=2:=by unfold RS at *;rw [aeb,wX,wY];rfl
 have ajc:¬ ∀ a∈p.AQ,CX X a.id+CX Y a.id≠0->(Hz p (CX X) (-a.id)+Hz p (CX Y) (-a.id)=0/\Hz p (CX X) a.id+Hz p (CX Y) a.id=1)\/(Hz p (CX X) (-a.id)+Hz p (CX Y) (-a.id)=1/\Hz p (CX X) a.id+Hz p (CX Y) a.id=0):=by
  intro hw;have:=h.ajY (zX.add zY) (fun a ha hne=>by rw [h.bY,h.bY];exact hw a ha hne) nv ajb
  omega
 have jump:∀ a∈p.AQ,Hz p (CX X) a.id-Hz p (CX X) (-a.id)=CX X a.id/\Hz p (CX Y) a.id-Hz p (CX Y) (-a.id)=CX Y a.id:=fun a ha=>⟨h.XO zX ha,h.XO zY ha⟩;by_cases hc:CW p p.AQ.length x=CW p p.AQ.length y
 ·exfalso;refine ajc fun a ha hne=>?_;have hs:CW p p.AQ.length a.id=CW p p.AQ.length x/\CW p p.AQ.length (-a.id)=CW p p.AQ.length x:=by
   rcases sup a ha hne with g | g
   · exact g
   · rw [hc];exact g
  have j:=jump a ha;have a1:=h.Xd hX gJ hx (dm a ha).1 hs.1;have a2:=h.Xd hX gJ hx (dm a ha).2 hs.2;have a3:=h.Xd Nk gK hy (dm a ha).1 (hs.1.trans hc);have a4:=h.Xd Nk gK hy (dm a ha).2 (hs.2.trans hc);have b1:=both a.id;have b2:=both (-a.id);have t1:Hz p (CX X) a.id+Hz p (CX Y) a.id=0\/Hz p (CX X) a.id+Hz p (CX Y) a.id=1:=by
   rw [a1,a3];by_cases c1:a.id∈X<;>by_cases c2:a.id∈Y<;>simp only [c1,c2,if_true,if_false] at b1 ⊢ <;> simp at b1 ⊢
  have t2:Hz p (CX X) (-a.id)+Hz p (CX Y) (-a.id)=0\/Hz p (CX X) (-a.id)+Hz p (CX Y) (-a.id)=1:=by
   rw [a2,a4];by_cases c1:-a.id∈X<;>by_cases c2:-a.id∈Y<;>simp only [c1,c2,if_true,if_false] at b2 ⊢ <;> simp at b2 ⊢
  omega
 ·obtain ⟨α01,αc⟩:=h.aec hX gJ hx hyd (fun e=>hc e.symm);obtain ⟨β01,βc⟩:=h.aec Nk gK hy hxd hc;have WQ:∀ d∈Bj p,CW p p.AQ.length d=CW p p.AQ.length x->Hz p (CX X) d=(if d∈X then 1 else 0)/\Hz p (CX Y) d=Hz p (CX Y) x:=fun d hd hs=>⟨h.Xd hX gJ hx hd hs,βc d hd hs⟩;have Xe:∀ d∈Bj p,CW p p.AQ.length d=CW p p.AQ.length y->Hz p (CX Y) d=(if d∈Y then 1 else 0)/\Hz p (CX X) d=Hz p (CX X) y:=fun d hd hs=>⟨h.Xd Nk gK hy hd hs,αc d hd hs⟩;generalize Hz p (CX X) y=α at *;generalize Hz p (CX Y) x=β at *;have Q8:∀ (P:Prop) [Decidable P],(if P then (1:Int) else 0)=0\/(if P then (1:Int) else 0)=1:=fun P _=>by split<;>simp
  have diff:∀ {X Y:List Int} {x:Int},X∈Cb p->Y∈Cb p->GR p (CX X)->GR p (CX Y)->x∈X->x∈Bj p ->
    (∀ a∈p.AQ,CX X a.id + -CX Y a.id≠0->(Hz p (CX X) (-a.id)-Hz p (CX Y) (-a.id)=0\/Hz p (CX X) (-a.id)-Hz p (CX Y) (-a.id)=1)/\(Hz p (CX X) a.id-Hz p (CX Y) a.id=0\/Hz p (CX X) a.id-Hz p (CX Y) a.id=1)) ->
    Hz p (CX X) x-Hz p (CX Y) x=1->F8 p Y<F8 p X:=by
   intro X Y x hX Nk zX zY hx hxd hw h1;have hp:=(h.aeU (zX.add zY.neg) (fun a ha hne=>by
    have j1:=h.XO zX ha;have j2:=h.XO zY ha;have hw:=hw a ha hne;have hne:CX X a.id + -CX Y a.id≠0:=hne;rw [h.bY,h.bY,h.aed,h.aed];omega)).2 (OY fun hno=>by
     have:=h.aja (z:=fun i=>CX X i + -CX Y i) (fun a ha=>OY fun e=>hno ⟨a,ha,e⟩) x
     rw [h.bY,h.aed] at this;omega)
   rw [aeb,aac,<- h.aeZ hX,<- h.aeZ Nk] at hp;omega
  have aze:∀ {z:Int},True->True:=fun h=>h;rcases α01 with α0 | α1<;>rcases β01 with β0 | β1
  ·exfalso;refine ajc fun a ha hne=>?_;have j:=jump a ha;rcases sup a ha hne with g | g
   ·obtain ⟨e1,e2⟩:=WQ _ (dm a ha).1 g.1;obtain ⟨e3,e4⟩:=WQ _ (dm a ha).2 g.2;have i1:=Q8 (a.id∈X);have i2:=Q8 (-a.id∈X);omega
   ·obtain ⟨e1,e2⟩:=Xe _ (dm a ha).1 g.1;obtain ⟨e3,e4⟩:=Xe _ (dm a ha).2 g.2;have i1:=Q8 (a.id∈Y);have i2:=Q8 (-a.id∈Y);omega
  ·have:=diff Nk hX zY zX hy hyd (fun a ha hne=>by
    have hs:(CW p p.AQ.length a.id=CW p p.AQ.length x/\CW p p.AQ.length (-a.id)=CW p p.AQ.length x)\/(CW p p.AQ.length a.id=CW p p.AQ.length y/\CW p p.AQ.length (-a.id)=CW p p.AQ.length y):=by
     by_cases c:CX X a.id=0
     · exact .inr (h.gI Nk hy ha AA)
     · exact .inl (h.gI hX hx ha c)
    rcases hs with g | g
    ·obtain ⟨e1,e2⟩:=WQ _ (dm a ha).1 g.1;obtain ⟨e3,e4⟩:=WQ _ (dm a ha).2 g.2;have i1:=Q8 (a.id∈X);have i2:=Q8 (-a.id∈X);omega
    ·obtain ⟨e1,e2⟩:=Xe _ (dm a ha).1 g.1;obtain ⟨e3,e4⟩:=Xe _ (dm a ha).2 g.2;have i1:=Q8 (a.id∈Y);have i2:=Q8 (-a.id∈Y);omega) (by
    obtain ⟨e1,e2⟩:=Xe y hyd rfl;rw [e1,e2,AZ hy];omega)
   omega
  ·have:=diff hX Nk zX zY hx hxd (fun a ha hne=>by
    have hs:(CW p p.AQ.length a.id=CW p p.AQ.length x/\CW p p.AQ.length (-a.id)=CW p p.AQ.length x)\/(CW p p.AQ.length a.id=CW p p.AQ.length y/\CW p p.AQ.length (-a.id)=CW p p.AQ.length y):=by
     by_cases c:CX X a.id=0
     · exact .inr (h.gI Nk hy ha AA)
     · exact .inl (h.gI hX hx ha c)
    rcases hs with g | g
    ·obtain ⟨e1,e2⟩:=WQ _ (dm a ha).1 g.1;obtain ⟨e3,e4⟩:=WQ _ (dm a ha).2 g.2;have i1:=Q8 (a.id∈X);have i2:=Q8 (-a.id∈X);omega
    ·obtain ⟨e1,e2⟩:=Xe _ (dm a ha).1 g.1;obtain ⟨e3,e4⟩:=Xe _ (dm a ha).2 g.2;have i1:=Q8 (a.id∈Y);have i2:=Q8 (-a.id∈Y);omega) (by
    obtain ⟨e1,e2⟩:=WQ x hxd rfl;rw [e1,e2,AZ hx];omega)
   omega
  ·exfalso;obtain ⟨a,ha,hne,hor⟩:=h.arB (zX.add zY) (OY fun hno=>by
    have:=h.aja (z:=fun i=>CX X i+CX Y i) (fun a ha=>OY fun e=>hno ⟨a,ha,e⟩) x
    rw [h.bY] at this;obtain ⟨e1,e2⟩:=WQ x hxd rfl;rw [e1,e2,AZ hx] at this;omega)
   rw [h.bY,h.bY] at hor;rcases sup a ha hne with g | g
   ·obtain ⟨e1,e2⟩:=WQ _ (dm a ha).1 g.1;obtain ⟨e3,e4⟩:=WQ _ (dm a ha).2 g.2;have i1:=Q8 (a.id∈X);have i2:=Q8 (-a.id∈X);omega
   ·obtain ⟨e1,e2⟩:=Xe _ (dm a ha).1 g.1;obtain ⟨e3,e4⟩:=Xe _ (dm a ha).2 g.2;have i1:=Q8 (a.id∈Y);have i2:=Q8 (-a.id∈Y);omega
end
def MF (p:Pl) (d:Int):List Pt:=match findAr p.AQ (FD d) with
 | some a=>AV p a
 | none=>[]
def Jq (P:List Pt):List (Pt×Pt):=(List.range (P.length-1)).map fun k=>(P.getD k AY,P.getD (k+1) AY)
def Jr (p:Pl) (X:List Int):List (Pt×Pt):=X.flatMap fun d=>Jq (MF p d)
def KU (v a b:Pt):Bool:=decide ((a.y<=v.y/\v.y<b.y/\0<tw a b v)\/(b.y<=v.y/\v.y<a.y/\tw a b v<0))
def Q9 (v:Pt) (s:Bool×Bool) (q:Pt×Pt):Bool×Bool:=if Ee q.1 q.2 v then (true,s.2) else if KU v q.1 q.2 then (s.1,!s.2) else s
def RU (v:Pt) (l:List (Pt×Pt)):Bool×Bool:=l.foldl (Q9 v) (false,false)
def encS (p:Pl) (X:List Int) (v:Pt):Bool:=(RU v (Jr p X)).2 && !(RU v (Jr p X)).1
theorem arD (v a b:Pt):KU v a b=decide (UQ v a b≠0):=by
 have t:tw b a v=-tw a b v:=by unfold tw;grind
 unfold KU UQ;rw [t];by_cases c1:a.y<=v.y/\v.y<b.y/\0<tw a b v
 · rw [AZ c1,JB (.inl c1)];rfl
 ·rw [AX c1];by_cases c2:b.y<=v.y/\v.y<a.y/\tw a b v<0
  · rw [AZ ⟨c2.1,c2.2.1,AA⟩,JB (.inr c2)];rfl
  · rw [AX AA,Fg (by rintro (h | h);exact c1 h;exact c2 h)];rfl
theorem ajd (v:Pt):∀ (l:List (Pt×Pt)) (s:Bool×Bool),(l.foldl (Q9 v) s).1=(s.1 || l.any fun q=>Ee q.1 q.2 v)
 | [],s=>by simp
 | q::l,s=>by
  rw [kH,ajd v l,qY];unfold Q9;by_cases h:Ee q.1 q.2 v=true
  · rw [AZ h,h];simp
  ·rw [AX h];split<;>simp [h]
theorem aje (v:Pt):∀ (l:List (Pt×Pt)) (s:Bool×Bool),(l.any fun q=>Ee q.1 q.2 v)=false ->
  (l.foldl (Q9 v) s).2=(s.2 != decide ((l.map fun q=>if KU v q.1 q.2 then (1:Int) else 0).sum % 2=1))
 | [],s,_=>by simp
 | q::l,s,h=>by
  rw [qY,OC] at h;rw [kH,aje v l _ h.2,Ey,IC];unfold Q9;rw [AX (by rw [h.1];decide)];generalize (l.map fun q=>if KU v q.1 q.2 then (1:Int) else 0).sum=n
  cases hp:KU v q.1 q.2
  · rw [AX Aw,AX Aw,Int.zero_add]
  ·rw [AZ rfl,AZ rfl];by_cases hn:n % 2=1
   · rw [JB hn,Fg AA];cases s.2<;>rfl
   · rw [Fg hn,JB AA];cases s.2<;>rfl
theorem aae (v:Pt) (l:List (Pt×Pt)):((RU v l).2 && !(RU v l).1)=(!(l.any fun q=>Ee q.1 q.2 v) && decide ((l.map fun q=>if KU v q.1 q.2 then (1:Int) else 0).sum % 2=1)):=by
 unfold RU;rw [ajd]
 cases h:l.any fun q=>Ee q.1 q.2 v
 · rw [aje v l _ h];simp
 · simp
theorem ajf {α:Type} (l:List α) (f g:α->Int) (h:∀ x∈l,f x % 2=g x % 2):(l.map f).sum % 2=(l.map g).sum % 2:=by
 induction l with
 | nil=>rfl
 | cons a l ih =>
  rw [Ey,IC,Ey,IC];have h1:=h a JC;have h2:=ih fun x hx=>h x (LM _ hx);omega
theorem mP {a b v:Pt} (na:CJ a=true) (nb:CJ b=true) (nv:CJ v=true):Ee a b v=true↔JE a b v:=by
 unfold Ee JE
 have:EO [a,b,v]=true:=by simp [EO,na,nb,nv]
 rw [this];simp [and_assoc]
section
variable {p:Pl} (h:Valid p)
include h
theorem Valid.gQ {d:Int} (hd:d∈Bj p):∃ a∈p.AQ,(d=a.id\/d=-a.id)/\MF p d=AV p a:=by
 obtain ⟨a,ha,e⟩:=J9.1 hd;have hid:=(h.IQ ha).1;refine ⟨a,ha,e,?_⟩;unfold MF
 have:FD d=a.id:=by unfold FD;rcases e with rfl | rfl<;>split<;>omega
 rw [this,h.find ha]
theorem Valid.ajg {X:List Int} (hX:∀ d∈X,d∈Bj p) {q:Pt×Pt} (hq:q∈Jr p X):∃ a∈p.AQ,(a.id∈X\/-a.id∈X)/\∃ k,k+1<(AV p a).length/\q=((AV p a).getD k AY,(AV p a).getD (k+1) AY):=by
 obtain ⟨d,hd,hq⟩:=Ii.1 hq;obtain ⟨a,ha,e,hp⟩:=h.gQ (hX d hd);rw [hp] at hq;obtain ⟨k,hk,rfl⟩:=Ez.1 hq;have hk:=FQ.1 hk;refine ⟨a,ha,?_,k,AA,rfl⟩;rcases e with rfl | rfl
 · exact .inl hd
 · exact .inr hd
theorem Valid.aee {X:List Int} {a:Ar} (ha:a∈p.AQ) (hm:a.id∈X\/-a.id∈X) {k:Nat} (hk:k+1<(AV p a).length):((AV p a).getD k AY,(AV p a).getD (k+1) AY)∈Jr p X:=by
 have hid:=(h.IQ ha).1;have e:∀ d,(d=a.id\/d=-a.id)->MF p d=AV p a:=fun d e=>by
  unfold MF
  have:FD d=a.id:=by unfold FD;rcases e with rfl | rfl<;>split<;>omega
  rw [this,h.find ha]
 rcases hm with hm | hm
 · exact Ii.2 ⟨_,hm,by rw [e _ (.inl rfl)];exact Ez.2 ⟨k,FQ.2 AA,rfl⟩⟩
 · exact Ii.2 ⟨_,hm,by rw [e _ (.inr rfl)];exact Ez.2 ⟨k,FQ.2 AA,rfl⟩⟩
theorem Valid.arE {X:List Int} (hX:X∈Cb p) (v:Pt):((Jr p X).map fun q=>if KU v q.1 q.2 then (1:Int) else 0).sum % 2=RS p (CX X) v % 2:=by
 obtain ⟨-,h2⟩:=h.Ic hX;have e1:((Jr p X).map fun q=>if KU v q.1 q.2 then (1:Int) else 0).sum=(X.map fun d=>Ko (fun a b=>if KU v a b then (1:Int) else 0) (MF p d)).sum:=by
  unfold Jr;rw [agx,ajR];refine IB _ _ _ fun d _=>?_;unfold Jq Ko;rw [IW];rfl
 rw [e1,h.aeY hX];unfold RS EC;refine ajf _ _ _ fun a ha=>?_;have hid:=(h.IQ ha).1;have p1:MF p a.id=AV p a:=by
  unfold MF;rw [show FD a.id=a.id by unfold FD;split<;>omega,h.find ha]
 have p2:MF p (-a.id)=AV p a:=by
  unfold MF;rw [show FD (-a.id)=a.id by unfold FD;split<;>omega,h.find ha]
 rw [p1,p2];have e:Ko (fun a b=>if KU v a b then (1:Int) else 0) (AV p a) % 2=Ko (UQ v) (AV p a) % 2:=by
  unfold Ko;refine ajf _ _ _ fun k _=>?_
  show (if KU v ((AV p a).getD k AY) ((AV p a).getD (k+1) AY)=true then (1:Int) else 0) % 2=_
  rw [arD];unfold UQ;split
  · rfl
  · split<;>rfl
 generalize Ko (fun a b=>if KU v a b then (1:Int) else 0) (AV p a)=s at *;generalize Ko (UQ v) (AV p a)=t at *;unfold CX;by_cases c1:a.id∈X<;>by_cases c2:-a.id∈X<;>simp only [c1,c2,if_true,if_false]<;>omega
theorem Valid.uM {X:List Int} (hX:X∈Cb p) (hp:0<F8 p X) {v:Pt} (nv:CJ v=true) :
  encS p X v=true↔(∀ q∈Jr p X,Ee q.1 q.2 v=false)/\RS p (CX X) v=1:=by
 obtain ⟨-,h2⟩:=h.Ic hX;unfold encS;rw [aae,ER,Dq,h.arE hX,QM,MB];constructor
 ·rintro ⟨g1,g2⟩;have g1':∀ q∈Jr p X,Ee q.1 q.2 v=false:=fun q hq=>by simpa using g1 q hq
  have hoff:UR p (CX X) v:=fun a ha hne k hk hon=>by
   have hm:a.id∈X\/-a.id∈X:=by
    by_cases c1:a.id∈X
    · exact .inl c1
    ·by_cases c2:-a.id∈X
     · exact .inr c2
     · exact absurd yH hne
   have:=g1' _ (h.aee ha hm hk)
   rw [(mP (h.Dh ha AA) (h.Dh ha hk) nv).2 hon] at this
   cases this
  have:=h.ajY (h.WM hX) (h.ajZ hX hp) nv hoff
  exact ⟨g1',AA⟩
 ·rintro ⟨g1,g2⟩;exact ⟨fun q hq=>by rw [g1 q hq];decide,by rw [g2];rfl⟩
theorem Valid.vP {X:List Int} {v:Pt} (nv:CJ v=true) (g:∀ q∈Jr p X,Ee q.1 q.2 v=false):UR p (CX X) v:=fun a ha hne k hk hon=>by
 have hm:a.id∈X\/-a.id∈X:=by
  by_cases c1:a.id∈X
  · exact .inl c1
  ·by_cases c2:-a.id∈X
   · exact .inr c2
   · exact absurd yH hne
 have:=g _ (h.aee ha hm hk)
 rw [(mP (h.Dh ha AA) (h.Dh ha hk) nv).2 hon] at this
 cases this
theorem Valid.arF {X Y:List Int} (hX:X∈Cb p) (Nk:Y∈Cb p) (gJ:0<F8 p X) (gK:0<F8 p Y) {v:Pt} (nv:CJ v=true)
  (eX:encS p X v=true) (eY:encS p Y v=true) (e:F8 p X=F8 p Y):X=Y:=by
 obtain ⟨g1,g2⟩:=(h.uM hX gJ nv).1 eX;obtain ⟨g3,g4⟩:=(h.uM Nk gK nv).1 eY;exact OY fun hne=>h.arC hX Nk gJ gK hne nv (h.vP nv g1) (h.vP nv g3) g2 g4 e
end
section
variable {α:Type} (E:α->Bool) (t:α->Int)
def Qi (b:Option α) (x:α):Option α:=if (E x && (match b with | none=>true | some y=>decide (t x<t y)))=true then some x else b
def Js (l:List α):Option α:=l.foldl (Qi E t) none
theorem Xf (l:List α) (x:α):Js E t (l++[x])=Qi E t (Js E t l) x:=by unfold Js;rw [WC];rfl
theorem aef {l:List α} {k:Nat} (hk:k<l.length):Js E t (l.take (k+1))=Qi E t (Js E t (l.take k)) l[k]:=by
 rw [Em hk,Xf]
theorem aeg {P:List α->Prop} (h0:P []) (h1:∀ l x,P l->P (l++[x])) (l:List α):P l:=by
 have:∀ k,k<=l.length->P (l.take k):=by
  intro k
  induction k with
  | zero=>intro _;exact h0
  | succ k ih=>intro hk;rw [Em (show k<l.length by omega)];exact h1 _ _ (ih AA)
 have:=this l.length (Cj _)
 rwa [I5] at this
theorem ajh (l:List α):match Js E t l with
  | none=>∀ x∈l,E x=false
  | some x=>x∈l/\E x=true/\∀ y∈l,E y=true->t x<=t y:=by
 induction l using aeg with
 | h0=>exact fun x hx=>by cases hx
 | h1 l x ih =>
  rw [Xf];unfold Qi
  cases hb:Js E t l with
  | none =>
   rw [hb] at ih;simp only [aco];by_cases hE:E x=true
   ·rw [AZ hE];refine ⟨Ah,hE,fun y hy gU=>?_⟩;rcases GI.1 hy with hy | hy
    · rw [ih y hy] at gU;cases gU
    · rw [Eb] at hy;subst hy;exact dY _
   ·rw [AX hE];intro y hy;rcases GI.1 hy with hy | hy
    · exact ih y hy
    · rw [Eb] at hy;subst hy;simpa using hE
  | some z =>
   rw [hb] at ih;simp only [ER,Dq];by_cases hE:E x=true/\t x<t z
   ·rw [AZ hE];refine ⟨Ah,hE.1,fun y hy gU=>?_⟩;rcases GI.1 hy with hy | hy
    · have:=ih.2.2 y hy gU;omega
    · rw [Eb] at hy;subst hy;exact dY _
   ·rw [AX hE];refine ⟨SB _ ih.1,ih.2.1,fun y hy gU=>?_⟩;rcases GI.1 hy with hy | hy
    · exact ih.2.2 y hy gU
    ·rw [Eb] at hy;subst hy;have:¬ t y<t z:=fun h=>hE ⟨gU,h⟩
     omega
theorem aeh {l:List α}:Js E t l=none↔∀ x∈l,E x=false:=by
 have:=ajh E t l
 cases h:Js E t l with
 | none=>rw [h] at this;exact ⟨fun _=>this,fun _=>rfl⟩
 | some x =>
  rw [h] at this;refine ⟨fun h=>(by cases h),fun h0=>?_⟩;have h1:=h0 x this.1;rw [this.2.1] at h1
  cases h1
theorem ae8 {l:List α} {x:α} (h:Js E t l=some x):x∈l/\E x=true/\∀ y∈l,E y=true->t x<=t y:=by
 have:=ajh E t l
 rw [h] at this;exact this
theorem arG {l m:List α} (hp:l.Perm m) (hu:∀ x∈l,∀ y∈l,E x=true->E y=true->t x=t y->x=y):Js E t l=Js E t m:=by
 cases h1:Js E t l with
 | none =>
  have:=(aeh E t).1 h1
  exact ((aeh E t).2 fun x hx=>this x (hp.symm.subset hx)).symm
 | some x =>
  obtain ⟨a1,a2,a3⟩:=ae8 E t h1
  cases h2:Js E t m with
  | none =>
   have:=(aeh E t).1 h2 x (hp.subset a1)
   rw [a2] at this;cases this
  | some y =>
   obtain ⟨b1,b2,b3⟩:=ae8 E t h2;have:=a3 y (hp.symm.subset b1) b2
   have:=b3 x (hp.subset a1) a2
   rw [hu x a1 y (hp.symm.subset b1) a2 b2 AA]
end
set_option linter.unusedSectionVars false
theorem vU {a b u:Pt} (hab:hY a<hY b) (h:JE a b u):hY a<=hY u/\hY u<=hY b:=by
 obtain ⟨h0,x1,x2,y1,y2⟩:=h;have k1:(hY u-hY a)*(b.y-a.y)=(u.y-a.y)*(hY b-hY a):=by unfold tw at h0;unfold hY;grind
 have k2:(hY u-hY a)*(b.x-a.x)=(u.x-a.x)*(hY b-hY a):=by unfold tw at h0;unfold hY;grind
 have hN:0<hY b-hY a:=AA
 have hd:hY b-hY a=8388608*(b.y-a.y)+(b.x-a.x):=by unfold hY;omega
 have hu:hY u-hY a=8388608*(u.y-a.y)+(u.x-a.x):=by unfold hY;omega
 have hv:hY b-hY u=8388608*(b.y-u.y)+(b.x-u.x):=by unfold hY;omega
 generalize hY b-hY a=N at *;have s:∀ {x y:Int},0<x->0<y->0<x*y:=fun h1 h2=>Ji h1 h2;have s2:∀ {x y:Int},x<0->0<y->x*y<0:=fun h1 h2=>Uf h1 h2;have s3:∀ {x y:Int},0<x->y<0->x*y<0:=fun h1 h2=>WE h1 h2;have s4:∀ {x y:Int},x<0->y<0->0<x*y:=fun h1 h2=>qZ h1 h2;have nn:∀ {x y:Int},0<=x->0<=y->0<=x*y:=fun h1 h2=>KY h1 h2;have np:∀ {x y:Int},x<=0->0<=y->x*y<=0:=fun h1 h2=>yR h1 h2;have k1':(hY b-hY u)*(b.y-a.y)=(b.y-u.y)*N:=by
  have:(hY b-hY u)+(hY u-hY a)=N:=AA
  have e:(hY b-hY u)*(b.y-a.y)=N*(b.y-a.y)-(hY u-hY a)*(b.y-a.y):=by rw [<- this];grind
  rw [e,k1];grind
 have k2':(hY b-hY u)*(b.x-a.x)=(b.x-u.x)*N:=by
  have:(hY b-hY u)+(hY u-hY a)=N:=AA
  have e:(hY b-hY u)*(b.x-a.x)=N*(b.x-a.x)-(hY u-hY a)*(b.x-a.x):=by rw [<- this];grind
  rw [e,k2];grind
 have key:∀ {m d q:Int},m*d=q*N->(0<d->0<=q)->(d<0->q<=0)->d≠0->0<=m:=by
  intro m d q e h1 h2 hd0;apply OY;intro hm;rcases Int.lt_or_gt_of_ne hd0 with g | g
  ·have:=s4 (show m<0 by omega) g
   have:=np (h2 g) (show 0<=N by omega)
   omega
  ·have:=s2 (show m<0 by omega) g
   have:=nn (h1 g) (show 0<=N by omega)
   omega
 by_cases hy:b.y-a.y=0
 ·have hx:b.x-a.x≠0:=AA
  have m1:=key k2 AA AA hx;have m2:=key k2' AA AA hx;omega
 ·have m1:=key k1 AA AA hy;have m2:=key k1' AA AA hy;omega
theorem aji {u v a b s:Pt} (hne:u≠v) (ha:tw u v a=0) (hb:tw u v b=0) (hs:tw u v s=0):tw a b s=0:=by
 have h0:=Pt.aaT hne;unfold tw at *;exact parallel h0 (by grind) (by grind)
theorem ajj {a b:Pt} (na:CJ a=true) (nb:CJ b=true) (hne:a≠b):∃ s t,((a=s/\b=t)\/(a=t/\b=s))/\hY s<hY t/\CJ s=true/\CJ t=true:=by
 rcases Iw (hY a) (hY b) with c | c | c
 · exact ⟨a,b,.inl ⟨rfl,rfl⟩,c,na,nb⟩
 · exact absurd (Md na nb c) hne
 · exact ⟨b,a,.inr ⟨rfl,rfl⟩,c,nb,na⟩
theorem vV {a b v:Pt} (h:JE a b v):JE b a v:=by
 obtain ⟨h0,h1⟩:=h;refine ⟨?_,by rw [ql,qm b.x,ql b.y,qm b.y];exact h1⟩
 have:tw b a v=-tw a b v:=by unfold tw;grind
 omega
theorem ajk {a b c d u v:Pt} (na:CJ a=true) (nb:CJ b=true) (nc:CJ c=true) (nd:CJ d=true) (nu:CJ u=true) (nv:CJ v=true) (hab:a≠b) (hcd:c≠d) (huv:u≠v)
  (h1:JE a b u) (h2:JE a b v) (h3:JE c d u) (h4:JE c d v):N9 a b c d=2:=by
 obtain ⟨s,t,e1,l1,-⟩:=ajj na nb hab;obtain ⟨x,y,e2,l2,-⟩:=ajj nc nd hcd;have hh:hY u≠hY v:=fun e=>huv (Md nu nv e);have h1':JE s t u:=by rcases e1 with ⟨rfl,rfl⟩ | ⟨rfl,rfl⟩;exact h1;exact vV h1
 have h2':JE s t v:=by rcases e1 with ⟨rfl,rfl⟩ | ⟨rfl,rfl⟩;exact h2;exact vV h2
 have h3':JE x y u:=by rcases e2 with ⟨rfl,rfl⟩ | ⟨rfl,rfl⟩;exact h3;exact vV h3
 have h4':JE x y v:=by rcases e2 with ⟨rfl,rfl⟩ | ⟨rfl,rfl⟩;exact h4;exact vV h4
 have q1:=vU l1 h1';have q2:=vU l1 h2';have q3:=vU l2 h3';have q4:=vU l2 h4';have hst:s≠t:=fun e=>by rw [e] at l1;omega
 have hxy:x≠y:=fun e=>by rw [e] at l2;omega
 obtain ⟨p1,p2⟩:=oJ hst h1'.1 h2'.1;obtain ⟨p3,p4⟩:=oJ hxy h3'.1 h4'.1;exact aeN e1 e2 l1 l2 (aji huv p1 p2 p3) (aji huv p1 p2 p4) AA AA
theorem arH {a b c d v:Pt} (na:CJ a=true) (nb:CJ b=true) (nc:CJ c=true) (nd:CJ d=true) (nv:CJ v=true) (hab:a≠b) (hcd:c≠d) (h1:JE a b v) (h2:JE c d v):N9 a b c d≠0:=by
 intro h0;have lin:∀ {a b c d:Pt},CJ c=true->CJ d=true->c≠d->tw a b v=0->JE c d v->(tw a b c<=0/\0<=tw a b d)\/(0<=tw a b c/\tw a b d<=0):=by
  intro a b c d nc nd hcd e ho;have go:∀ {c d:Pt},hY c<hY d->JE c d v->(tw a b c<=0/\0<=tw a b d)\/(0<=tw a b c/\tw a b d<=0):=by
   intro c d hlt ho;have hb:=vU hlt ho;have k:tw a b c*(hY d-hY v)+tw a b d*(hY v-hY c)=0:=by
    have:=ho.1
    have k0:tw a b c*(hY d-hY v)+tw a b d*(hY v-hY c)=tw a b v*(hY d-hY c)-(hY b-hY a)*tw c d v:=by unfold tw hY;grind
    rw [k0,e,this];simp
   have p1:∀ {x y:Int},0<x->0<=y->0<=x*y:=fun h1 h2=>KY AA h2;have p2:∀ {x y:Int},x<0->0<=y->x*y<=0:=fun h1 h2=>yR AA h2;have p3:∀ {x y:Int},0<x->0<y->0<x*y:=fun h1 h2=>Ji h1 h2;have p4:∀ {x y:Int},x<0->0<y->x*y<0:=fun h1 h2=>Uf h1 h2;generalize tw a b c=u1 at *;generalize tw a b d=u2 at *;have hA:0<=hY d-hY v:=AA
   have hB:0<=hY v-hY c:=AA
   have hAB:0<hY d-hY v\/0<hY v-hY c:=AA
   generalize hY d-hY v=A at *;generalize hY v-hY c=B at *;clear hb ho e hlt;rcases Iw u1 0 with g1 | g1 | g1
   ·rcases Iw u2 0 with g2 | g2 | g2
    ·exfalso;have:=p2 g1 hA;have:=p2 g2 hB
     rcases hAB with q | q
     · have:=p4 g1 q;omega
     · have:=p4 g2 q;omega
    · omega
    · omega
   · omega
   ·rcases Iw u2 0 with g2 | g2 | g2
    · omega
    · omega
    ·exfalso;have:=p1 g1 hA;have:=p1 g2 hB
     rcases hAB with q | q
     · have:=p3 g1 q;omega
     · have:=p3 g2 q;omega
  rcases Iw (hY c) (hY d) with g | g | g
  · exact go g ho
  · exact absurd (Md nc nd g) hcd
  · have:=go g (vV ho);omega
 have l1:=lin (a:=a) (b:=b) nc nd hcd h1.1 h2;have l2:=lin (a:=c) (b:=d) na nb hab h2.1 h1;have e:=tX a b c d;by_cases hp:tw a b d-tw a b c=0
 ·have z1:tw a b c=0/\tw a b d=0:=AA
  obtain ⟨z3,z4⟩:=oJ hab z1.1 z1.2;unfold N9 at h0;rw [AX (fun e=>hab e.1),AZ (by rw [af4];omega),AZ ⟨z1.1,z1.2,z3,z4⟩,V7] at h0;have b1:=(adN a b v hab h1.1).1 ⟨h1.2.1,h1.2.2.1,h1.2.2.2.1,h1.2.2.2.2⟩;have b2:=(adN c d v hcd h2.1).1 ⟨h2.2.1,h2.2.2.1,h2.2.2.2.1,h2.2.2.2.2⟩;have g1:BP v (hi (lo a b) (lo c d))=false:=aiS b1.1 b2.1;have g2:BP (lo (hi a b) (hi c d)) v=false:=aiT b1.2 b2.2;split at h0
  · cases h0
  ·rename_i hne;split at h0
   · cases h0
   ·rename_i hb;rw [IL] at hb;apply hne;rw [<- IL,MX] at g1 g2 hb;rw [Pt.ext_iff'];omega
 ·have NM:=ajm hab h0 hp;omega
theorem arI {D:Int} (hD:0<D) {a b v:Pt} (na:CJ a=true) (nb:CJ b=true) (nv:CJ v=true) (hne:a≠b) (hd:hY b-hY a∣D) (hav:a≠v) (hbv:b≠v) (hoff:¬ JE a b v) :
  (if 2*D*v.x<xE D a b (2*hY v) then Ef (2*hY v) a b else 0)=NP a b v:=by
 have key:∀ {a b:Pt},hY a<hY b->hY b-hY a∣D->hY a≠hY v->hY b≠hY v->(if 2*D*v.x<xE D a b (2*hY v) then Ef (2*hY v) a b else 0)=NP a b v:=by
  intro a b hab hd ha hb;have hx:=ajV hD (v:=v) hab hd;simp only [hx];unfold NP Ef;rw [AX (show ¬ (hY b<hY v/\hY v<hY a/\0<tw b a v) by omega)];by_cases c:0<tw a b v
  ·rw [AZ c];by_cases c1:hY a<hY v
   ·by_cases c2:hY v<hY b
    · rw [AZ AA,AX AA,AZ ⟨c1,c2,c⟩];rfl
    · rw [AX AA,AX AA,AX (fun e=>c2 e.2.1)];rfl
   · rw [AZ AA,AZ AA,AX (fun e=>c1 e.1)];rfl
  · rw [AX c,AX (fun e=>c e.2.2)]
 have ha:hY a≠hY v:=fun e=>hav (Md na nv e);have hb:hY b≠hY v:=fun e=>hbv (Md nb nv e);rcases Iw (hY a) (hY b) with c | c | c
 · exact key c hd ha hb
 · exact absurd (Md na nb c) hne
 ·have:=key c (by rw [show hY a-hY b=-(hY b-hY a) by omega];exact qj.2 hd) hb ha
  rw [bV,af2] at this;have e2:Ef (2*hY v) b a=-Ef (2*hY v) a b:=by unfold Ef;omega
  rw [e2] at this;split at this<;>rename_i g<;>first | (rw [AZ g];omega) | (rw [AX g];omega)
section
variable {p:Pl} (h:Valid p)
include h
theorem Valid.asu {z:Int->Int} (hz:GR p z) {v:Pt} (nv:CJ v=true) (hoff:UR p z v):RS p z v=EC p z (fun a b=>NP a b v):=by
 obtain ⟨D,hD,hd⟩:=h.aad;rw [h.ajW hz hD hd nv hoff];refine (mO p z D (2*hY v) (fun x s=>if 2*D*v.x<x then s else 0) (fun x c s=>by split<;>simp)).trans ?_;exact ab6 fun a ha hza k hk=>arI hD (h.Dh ha (k:=k) AA) (h.Dh ha hk) nv (h.distinct ha hk).1 (hd a ha k hk) (h.bW hoff ha hza (k:=k) AA) (h.bW hoff ha hza hk) (hoff a ha hza k hk)
theorem Valid.ajD {z:Int->Int} (hz:GR p z) {v:Pt} (nv:CJ v=true) (hoff:UR p z v) (u:Pt):Kq p z v u=RS p z v:=by
 rw [h.asu hz nv hoff];unfold Kq;refine ab6 fun a ha hza k hk=>?_;have e1:=h.bW hoff ha hza (k:=k) AA;have e2:=h.bW hoff ha hza hk;unfold PY;rw [AX (fun e=>e1 e.1),AX (fun e=>e2 e.1)];omega
theorem Valid.ae9 {z:Int->Int} (hz:GR p z) {a:Ar} (ha:a∈p.AQ) {k:Nat} (hk:k<(AV p a).length) (hoff:UR p z ((AV p a).getD k AY)) :
  RS p z ((AV p a).getD k AY)=Hz p z a.id/\Hz p z (-a.id)=Hz p z a.id:=by
 have hl:=Fa p a;have nv:=h.Dh ha hk;have hp:=h.XO hz ha;have h0:z a.id=0:=OY fun hne=>h.bW hoff ha hne hk rfl;rw [h0] at hp;refine ⟨?_,AA⟩;by_cases h1:k+1<(AV p a).length
 ·have:=(h.uJ hz ha h1).1
  rw [h.ajD hz nv hoff] at this;omega
 ·obtain ⟨m,rfl⟩:∃ m,k=m+1:=⟨k-1,AA⟩;have:=(h.uJ hz ha (m:=m) hk).2
  rw [h.ajD hz nv hoff] at this;omega
theorem Valid.asv {a c:Ar} (ha:a∈p.AQ) (hc:c∈p.AQ) (hne:a≠c) {k m:Nat} (hk:k+1<(AV p a).length) (hm:m+1<(AV p c).length) {v:Pt} (nv:CJ v=true)
  (h1:JE ((AV p a).getD k AY) ((AV p a).getD (k+1) AY) v) (h2:JE ((AV p c).getD m AY) ((AV p c).getD (m+1) AY) v):∃ n∈p.nodes,n.pt=v/\(a.fr=n.id\/a.dst=n.id)/\(c.fr=n.id\/c.dst=n.id):=by
 have go:∀ {a c:Ar} {k m:Nat},a∈p.AQ->c∈p.AQ->a≠c->k+1<(AV p a).length->m+1<(AV p c).length->JE ((AV p a).getD k AY) ((AV p a).getD (k+1) AY) v->JE ((AV p c).getD m AY) ((AV p c).getD (m+1) AY) v ->
   Oh p (Dc p a k) (Dc p c m)=true->∃ n∈p.nodes,n.pt=v/\(a.fr=n.id\/a.dst=n.id)/\(c.fr=n.id\/c.dst=n.id):=by
  intro a c k m ha hc hne hk hm h1 h2 hj;have n1:=h.Dh ha (k:=k) AA;have n2:=h.Dh ha hk;have n3:=h.Dh hc (k:=m) AA;have n4:=h.Dh hc hm;have d1:=(h.distinct ha hk).1;have d2:=(h.distinct hc hm).1;have hm0:=arH n1 n2 n3 n4 nv d1 d2 h1 h2;unfold Oh at hj;split at hj
  ·obtain ⟨x,hx,hat⟩:=OA.1 hj;unfold Og Dc at hat;simp only [ER] at hat;obtain ⟨⟨⟨e1,e2⟩,o1⟩,o2⟩:=hat;have nx:=h.uU hx;rw [<- ae7] at o1 o2;have o1:=(mP n1 n2 nx).1 o1;have o2:=(mP n3 n4 nx).1 o2;have ends:∀ {b:Ar},V8 b x.id=true->b.fr=x.id\/b.dst=x.id:=fun he=>by
    unfold V8 at he;simpa using he
   refine ⟨x,hx,?_,ends e1,ends e2⟩;apply OY;intro hxv;have r1:=ajk n1 n2 n3 n4 nx nv d1 d2 hxv o1 h1 o2 h2;have r2:=ajk n3 n4 n1 n2 nx nv d2 d1 hxv o2 h2 o1 h1;exact h.ajP ha hc hk hm (fun e=>hne e.1) ⟨r1,r2⟩
  ·rw [beq_iff_eq] at hj;unfold Fz Dc at hj;rw [AZ (Xo n1 n2 n3 n4)] at hj;exact absurd hj hm0
 have hpw:=h.Qd.2.2;obtain ⟨i,hi,rfl⟩:=EF.1 ha;obtain ⟨j,hj,rfl⟩:=EF.1 hc;rw [G9] at hpw;rcases QT i j with hij | hij | hij
 · exact go ha hc hne hk hm h1 h2 (hpw i j hi hj hij k hk m hm)
 · subst hij;exact absurd rfl hne
 ·obtain ⟨n,h1,h2,h3,h4⟩:=go hc ha (fun e=>hne e.symm) hm hk h2 h1 (hpw j i hj hi hij m hm k hk);exact ⟨n,h1,h2,h4,h3⟩
theorem Valid.ajE {X:List Int} (hX:X∈Cb p) {r:Int} (hr:r∈X) {a:Ar} (ha:a∈p.AQ) (hs:CW p p.AQ.length a.id≠CW p p.AQ.length r) {k:Nat} (hk:k<(AV p a).length) :
  ∀ q∈Jr p X,Ee q.1 q.2 ((AV p a).getD k AY)=false:=by
 intro q hq;obtain ⟨c,hc,hcm,m,hm,rfl⟩:=h.ajg (h.Ic hX).2 hq;rw [<- IL];intro ho;have hl:=Fa p a;have hcs:CW p p.AQ.length c.id=CW p p.AQ.length r:=by
  have hmc:c.id∈Bj p:=J9.2 ⟨c,hc,.inl rfl⟩;rcases hcm with g | g
  · exact h.WO hX g hr
  · rw [<- h.Vq hmc];exact h.WO hX g hr
 have hne:a≠c:=by rintro rfl;exact hs hcs
 obtain ⟨j,hj,hon⟩:∃ j,j+1<(AV p a).length/\JE ((AV p a).getD j AY) ((AV p a).getD (j+1) AY) ((AV p a).getD k AY):=by
  by_cases h1:k+1<(AV p a).length
  · exact ⟨k,h1,Xv _ _,AA⟩
  ·obtain ⟨j,rfl⟩:∃ j,k=j+1:=⟨k-1,AA⟩;exact ⟨j,hk,Xw _ _,AA⟩
 obtain ⟨n,hn,-,ea,ec⟩:=h.asv ha hc hne hj hm (h.Dh ha hk) hon ((mP (h.Dh hc AA) (h.Dh hc hm) (h.Dh ha hk)).1 ho);have ajF:∀ {a:Ar},a∈p.AQ->(a.fr=n.id\/a.dst=n.id)->∃ d∈DT p n.id,CW p p.AQ.length d=CW p p.AQ.length a.id:=by
  intro a ha hor;have hma:a.id∈Bj p:=J9.2 ⟨a,ha,.inl rfl⟩;rcases hor with e | e
  · exact ⟨a.id,(h.NI hn).symm.subset (Qg.2 ⟨a,ha,.inl ⟨rfl,e⟩⟩),rfl⟩
  · exact ⟨-a.id,(h.NI hn).symm.subset (Qg.2 ⟨a,ha,.inr ⟨rfl,e⟩⟩),h.Vq hma⟩
 obtain ⟨d1,m1,q1⟩:=ajF ha ea;obtain ⟨d2,m2,q2⟩:=ajF hc ec;exact hs (by rw [<- q1,h.aeL hn m1 m2,q2,hcs])
end
set_option linter.unusedSectionVars false
def Ci (p:Pl):List (List Int):=(Cb p).filter (fun X=>decide (0<F8 p X))
def Nl (p:Pl):List (List Int):=(Cb p).filter (fun X=>!decide (0<F8 p X))
def MG (p:Pl) (v:Pt):Option (List Int):=Js (fun X=>encS p X v) (F8 p) (Ci p)
theorem Np {p:Pl} {X:List Int}:X∈Ci p↔X∈Cb p/\0<F8 p X:=by unfold Ci;rw [QN,Dq]
theorem Xg {p:Pl} {X:List Int}:X∈Nl p↔X∈Cb p/\¬ 0<F8 p X:=by unfold Nl;rw [QN];simp
section
variable {p:Pl} (h:Valid p)
include h
theorem Valid.asw {l:List (List Int)} (hl:(Ci p).Perm l) {v:Pt} (nv:CJ v=true):Js (fun X=>encS p X v) (F8 p) l=MG p v:=by
 refine (arG _ _ hl fun X hX Y hY eX eY e=>?_).symm;rw [Np] at hX hY;exact h.arF hX.1 hY.1 hX.2 hY.2 nv eX eY e
theorem Valid.ajG {X:List Int} (hX:X∈Ci p) {r:Int} (hr:r∈X) {a:Ar} (ha:a∈p.AQ) (hs:CW p p.AQ.length a.id=CW p p.AQ.length r) {k:Nat} (hk:k<(AV p a).length):encS p X ((AV p a).getD k AY)=false:=by
 rw [Np] at hX;have nv:=h.Dh ha hk;have hma:a.id∈Bj p:=J9.2 ⟨a,ha,.inl rfl⟩;have hl:=Fa p a;rw [<- IL];intro he;obtain ⟨g1,g2⟩:=(h.uM hX.1 hX.2 nv).1 he;have hoff:=h.vP nv g1;obtain ⟨w1,w2⟩:=h.ae9 (h.WM hX.1) ha hk hoff;rw [h.Xd hX.1 hX.2 hr hma hs] at w1;rw [w1] at g2;have hin:a.id∈X:=OY fun c=>by rw [AX c] at g2;cases g2
 obtain ⟨j,hj,hon⟩:∃ j,j+1<(AV p a).length/\JE ((AV p a).getD j AY) ((AV p a).getD (j+1) AY) ((AV p a).getD k AY):=by
  by_cases h1:k+1<(AV p a).length
  · exact ⟨k,h1,Xv _ _,AA⟩
  ·obtain ⟨j,rfl⟩:∃ j,k=j+1:=⟨k-1,AA⟩;exact ⟨j,hk,Xw _ _,AA⟩
 have:=g1 _ (h.aee ha (.inl hin) hj)
 rw [(mP (h.Dh ha AA) (h.Dh ha hj) nv).2 hon] at this
 cases this
theorem Valid.asx {X:List Int} (hX:X∈Ci p) {a b:Ar} (ha:a∈p.AQ) (hb:b∈p.AQ) (hs:CW p p.AQ.length a.id=CW p p.AQ.length b.id) {k m:Nat} (hk:k<(AV p a).length) (hm:m<(AV p b).length) :
  encS p X ((AV p a).getD k AY)=encS p X ((AV p b).getD m AY):=by
 have hX':=Np.1 hX;obtain ⟨r,-,-,-,hr⟩:=h.Pe hX'.1;by_cases hc:CW p p.AQ.length a.id=CW p p.AQ.length r
 · rw [h.ajG hX hr ha hc hk,h.ajG hX hr hb (by rw [<- hs];exact hc) hm]
 ·have hma:a.id∈Bj p:=J9.2 ⟨a,ha,.inl rfl⟩;have hmb:b.id∈Bj p:=J9.2 ⟨b,hb,.inl rfl⟩;have o1:=h.ajE hX'.1 hr ha hc hk;have o2:=h.ajE hX'.1 hr hb (by rw [<- hs];exact hc) hm;have w1:=(h.ae9 (h.WM hX'.1) ha hk (h.vP (h.Dh ha hk) o1)).1;have w2:=(h.ae9 (h.WM hX'.1) hb hm (h.vP (h.Dh hb hm) o2)).1;have e:=(h.aec hX'.1 hX'.2 hr hma hc).2 _ hmb hs.symm;rw [Jh,h.uM hX'.1 hX'.2 (h.Dh ha hk),h.uM hX'.1 hX'.2 (h.Dh hb hm),w1,w2,e];exact ⟨fun g=>⟨o2,g.2⟩,fun g=>⟨o1,g.2⟩⟩
theorem Valid.asy {a b:Ar} (ha:a∈p.AQ) (hb:b∈p.AQ) (hs:CW p p.AQ.length a.id=CW p p.AQ.length b.id) {k m:Nat} (hk:k<(AV p a).length) (hm:m<(AV p b).length) :
  MG p ((AV p a).getD k AY)=MG p ((AV p b).getD m AY):=by
 unfold MG Js;have:∀ (l:List (List Int)) (o:Option (List Int)),(∀ X∈l,X∈Ci p)->l.foldl (Qi (fun X=>encS p X ((AV p a).getD k AY)) (F8 p)) o=l.foldl (Qi (fun X=>encS p X ((AV p b).getD m AY)) (F8 p)) o:=by
  intro l
  induction l with
  | nil=>intro o _;rfl
  | cons X l ih =>
   intro o hl;rw [kH,kH,ih _ (fun Y hY=>hl Y (LM _ hY))];congr 1;have e:=h.asx (hl X JC) ha hb hs hk hm;simp only [Qi,e]
 exact this _ _ fun X hX=>hX
end
def UU (p:Pl) (c:List Int):Pt:=(MF p (c.headD 0)).getD 0 AY
def mQ (p:Pl) (b:Option (List Int)):List (List Int):=(Nl p).filter (fun c=>decide (MG p (UU p c)=b))
def aaf (p:Pl) (b:Option (List Int)):Int:=match b with
 | none=>0
 | some X=>Ib p (X.headD 0)
def Kr (p:Pl) (b:Option (List Int)):List (List Int):=b.getD []::mQ p b
structure aeA (p:Pl):Prop where
 some:∀ X∈Ci p,Ib p (X.headD 0)≠0
 differ:((Ci p).map (fun X=>Ib p (X.headD 0))).Nodup
 sides:∀ b,(b=none\/∃ X∈Ci p,b=Option.some X)->∀ c∈Kr p b,∀ d∈c,Ib p d=aaf p b
 all:(Ci p).length=p.faces.length
theorem ajH {w:World} {gm n:Nat} {f:Int->SV} (h:NH w gm n f) {g:Nat} {t:TypeId} {cs:Array Value} (hg:AO w g t cs):g≠gm:=by
 rintro rfl;obtain ⟨D,h1,-⟩:=h;obtain ⟨es,clock,h2,-⟩:=h1;unfold AO at hg;rw [hg] at h2
 cases h2
theorem ajI {w:World} {gm n:Nat} {f:Int->SV} (h:NH w gm n f) {base:Nat} {e:TypeId} {size:Nat} {α:Type} {fe:α->List Value} {v:Value} {l:List α} (ho:Own w base e size fe v l):v.ownBlock≠some gm:=by
 rcases ho.2 with ⟨rfl,_⟩ | ⟨g,cap,cur,rfl,_,hh,_⟩
 · simp [Value.ownBlock]
 ·intro e';exact ajH h (cs:=cur) (g:=g) hh qO
theorem asz {w:World} {base:Nat} {e:TypeId} {size:Nat} {α:Type} {fe:α->List Value} {x:SV} {l:List α} (ho:Own w base e size fe (BF x) l):x.ok:=by
 obtain ⟨a,n,c⟩:=x;rcases ho.2 with ⟨h,_⟩ | ⟨g,cap,cur,h,_⟩
 · unfold BF at h;injection h with h1;exact .inl h1
 · unfold BF at h;injection h with h1;exact .inr ⟨g,0,h1⟩
structure YX (w:World) (b:Nat) (p:Pl) (f:Int->SV):Prop where
 mp:∃ n,NH w b n f
 rd:∀ a∈p.AQ,CZ w (BF (f a.id)) (AV p a)
theorem YX.keep {w w':World} {b:Nat} {p:Pl} {f:Int->SV} (h:YX w b p f) (hb:AU w w'):YX w' b p f:=by
 obtain ⟨⟨n,h1⟩,h2⟩:=h;exact ⟨⟨n,h1.keep hb⟩,fun a ha=>(h2 a ha).mono hb⟩
def at1 (w:World) (p:Pl) (e:Ending) (w':World):Prop:=∃ b f,e=.returned (.map (some b))/\AU w w'/\w.heap.size<=b/\YX w' b p f
theorem ajJ (v:Value) (p:Pl) (w:World) (h:D6 w v p) (hv:Valid p):Calls prog 72 #[v] w (at1 w p):=by
 have I9:=AB (fun id W (hW:AU w W)=>sF v p id W (h.mono hW) hv.short);obtain ⟨_,_,_,al,rfl,hpa,⟨An,cn,rfl,-⟩,⟨⟨Aa,ca,rfl,hm1,hm2,FT⟩,bZ⟩,⟨Af,cf,rfl,-⟩⟩:=h;unfold maxLen at hm2;have Ij:=AB FT;have vW:=AB bZ;have hall:al.length<=256:=by
  have hl:=hv.lim;unfold KD at hl;simp only [OC,JH] at hl;have h2:=hl.2;rw [hpa,CV] at h2;omega
 have NW:=AB (show ∀ k (hk:k<al.length),al[k].1∈p.AQ from fun k hk=>by rw [hpa];exact FZ (BO hk));have aag:=AB (show ∀ a∈p.AQ,∃ k,∃ hk:k<al.length,al[k].1=a from fun a ha=>by
  rw [hpa] at ha;obtain ⟨x,hx,rfl⟩:=Ez.1 ha;obtain ⟨k,hk,rfl⟩:=EF.1 hx;exact ⟨k,hk,rfl⟩)
 have OJ:=AB (fun k (hk:k<al.length)=>hv.sound.path (NW.1 k hk));have HIb:=AB (fun k (hk:k<al.length)=>hv.IQ (NW.1 k hk));have HNe:=AB (show ∀ j k (hj:j<al.length) (hk:k<al.length),j<k->al[j].1.id≠al[k].1.id from fun j k hj hk hjk e=>by
  have h1:=hv.sound.AQ;rw [hpa,IW,IX,G9] at h1;have:=h1 j k hj hk hjk
  simp only [Function.comp] at this;omega)
 generalize p.nodes.length=nn at *;generalize p.faces.length=nf at *;clear hpa FT bZ hv;have hmm:=@run_makeMap prog;go_enter func72,ntmps72;go_upto_region 2 with fail;obtain ⟨gm,hgm⟩:=BR (w.heap.size+1);obtain ⟨W1,hW⟩:∃ W:World,W=(w.alloc (.cells #[.slice An nn cn,.slice Aa al.length ca,.slice Af nf cf] 34)).alloc (.map #[] 0):=⟨_,rfl⟩;have X1:AO W1 w.heap.size 34 #[.slice An nn cn,.slice Aa al.length ca,.slice Af nf cf]:=by rw [hW];exact (AO.made rfl _ _).alloc _
 have JO:=AB (show NH W1 gm 0 (fun _=>sv0) by
  have:=NH.made (w.alloc (.cells #[.slice An nn cn,.slice Aa al.length ca,.slice Af nf cf] 34))
  rw [hW,hgm];simpa using this)
 have HB1:=AB (show AU w W1 by rw [hW];exact bA (bA (bR w) _) _);have hgl:w.heap.size<gm:=AA
 rw [<- hW,<- hgm];clear hW hgm hmm;have Dt:=AB X1;obtain ⟨BJ,BK,BL,BQ,-⟩:=X1.Az;go_upto_block 0 with fail;clear X1 BJ BK BL BQ;go_wp2_with fail;go_loopw [12] (fun i wr=>∃ (k:Nat) (f:Int->SV),k<=al.length/\i=.int .i64 k/\NH wr gm k f/\(∀ j (hj:j<al.length),j<k->Own wr w.heap.size 42 2 DK (BF (f al[j].1.id)) (AV p al[j].1))/\AO wr w.heap.size 34 #[.slice An nn cn,.slice Aa al.length ca,.slice Af nf cf]/\AU w wr) (fun i _=>al.length-(intOf i).toNat)
 case atStart => exact ⟨0,fun _=>sv0,BX _,rfl,JO.1,(fun j _ h=>AA),Dt.1,HB1.1⟩
 case round =>
  obtain ⟨k,f,hk,rfl,mp,own,X1,hb⟩:=hrel;obtain ⟨wo,rfl⟩:=BR wr;obtain ⟨HM,HO,HX,Hb⟩:=DW mp own X1 hb;have hzo:=hb.size;have hgo:=mp.lt;clear mp own hb Dt JO HB1;by_cases hlt:k<al.length
  ·obtain ⟨b,o,rfl,hlb,c0,c1,c2,c3,c4,c5⟩:=(Ij.1.mono Hb.1).ar hlt;obtain ⟨Av,cv,hvv,-⟩:=vW.1 k hlt;rw [hvv] at c3;have hpo:=OJ.1 k hlt;have hib:=HIb.1 k hlt;have hne:=fun j hj hjk=>HNe.1 j k hj hlt hjk;have hpt:=I9.1 al[k].1.id;rw [hpo] at hpt;have HP:=AB (show ∀ (f:Int->SV) W,(∀ j (hj:j<al.length),j<k->Own W w.heap.size 42 2 DK (BF (f al[j].1.id)) (AV p al[j].1))->Own W w.heap.size 42 2 DK (BF (f al[k].1.id)) (AV p al[k].1)->∀ j (hj:j<al.length),j<k+1->Own W w.heap.size 42 2 DK (BF (f al[j].1.id)) (AV p al[j].1) from fun f W h1 h2 j hj hjk=>by
    by_cases e:j=k
    · subst e;exact h2
    · exact h1 j hj AA)
   have Vr:=AB hne;clear hvv hpo hne;generalize al[k].1=a at *;generalize AV p a=P at *;obtain ⟨aid,mV,mW,aeB,mX,aright⟩:=a;simp only at c0 c1 c2 c3 c4 c5 hib hpt HP Vr;generalize aeB.length=vn at *;have mY:=AB hpt;clear hpt;go_upto_region 5 with fail;obtain ⟨W5,hW⟩:∃ W:World,W=wo.alloc (.cells #[.int .i64 aid,.int .i64 mV,.int .i64 mW,.slice Av vn cv,.int .i64 mX,.int .i64 aright] 50):=⟨_,rfl⟩;have HA:=AB (show AU wo W5 by rw [hW];exact bA (bR wo) _);have X5:AO W5 wo.heap.size 50 #[.int .i64 aid,.int .i64 mV,.int .i64 mW,.slice Av vn cv,.int .i64 mX,.int .i64 aright]:=by rw [hW];exact AO.made rfl _ _
   rw [<- hW];clear hW c0 c1 c2 c3 c4 c5 hlb;replace X1:=HX.1.keep HA.1;obtain ⟨DI,DJ,DU,IJ,XC,sH,sJ,-⟩:=X5.Iy
   try clear BJ BK BL BQ
   obtain ⟨BJ,BK,BL,BQ,-⟩:=X1.Az;go_wp2_with fail;refine (mY.1 _ (bT Hb.1 HA.1)).mono ?_;rintro e w6 ⟨A6,c6,rfl,hb6,NT⟩;simp only [Ih,Ud,if_true] at NT ⊢;obtain ⟨Ew,JQ,DX⟩:=CG (bT HA.1 hb6) NT (show AO W5 wo.heap.size 50 #[.int .i64 aid,.int .i64 mV,.int .i64 mW,.slice Av vn cv,.int .i64 mX,.int .i64 aright] from X5);have X6:=DX.1.keep hb6;have RV:=AB (HM.1.keep Ew.1);have QA:=HA.1.size;have UW:=hb6.size;clear hb6 NT X5 DI DJ DU IJ XC sH sJ X1 BJ BK BL BQ DX;obtain ⟨w7,hr7,WR,DN⟩:=RV.1.upd AA aid (KC AA AA) ⟨A6,P.length,c6⟩ (asz (x:=⟨A6,P.length,c6⟩) JQ.1);have YZ:=AB WR;have nX:=fun (h:gm=w.heap.size)=>(show False by omega);have Il:=AB (AO.grow (HX.1.keep Ew.1) DN (fun e=>ajH RV.1 (HX.1.keep Ew.1) (DV e)));have NU:=AB (show Own w7 w.heap.size 42 2 DK (BF ⟨A6,P.length,c6⟩) P from Own.grown (Own.EM JQ.1 AA) DN (fun g hg e=>ajI RV.1 JQ.1 (hg.trans e)));have QB:=AB (show ∀ j (hj:j<al.length),j<k->Own w7 w.heap.size 42 2 DK (BF (f al[j].1.id)) (AV p al[j].1) from fun j hj hjk =>
    Own.grown ((HO.1 j hj hjk).keep Ew.1) DN (fun g hg e=>ajI RV.1 ((HO.1 j hj hjk).keep Ew.1) (hg.trans e)))
   have Gx:=AB (bG (bT Hb.1 Ew.1) DN (fun g hg=>by have:=DV hg;omega));unfold BF at hr7;clear WR DN nX;obtain ⟨FU,FV,FW,QZ,aF,ZV,ZW,-⟩:=X6.Iy;go_wp2;go_roundw
   case rel => exact ⟨k+1,fun i=>if i=aid then ⟨A6,P.length,c6⟩ else f i,AA,BG,YZ.1,HP.1 (fun i=>if i=aid then ⟨A6,P.length,c6⟩ else f i) w7 (fun j hj hjk=>by
    show Own w7 _ _ _ _ (BF (if _=aid then _ else _)) _
    rw [AX (Vr.1 j hj hjk)];exact QB.1 j hj hjk) (by
    show Own w7 _ _ _ _ (BF (if aid=aid then _ else _)) _
    rw [AZ rfl];exact NU.1),Il.1,Gx.1⟩
   case measure => exact BH
  ·obtain rfl:k=al.length:=AA
   go_wp2;go_ret;exact ⟨gm,f,rfl,Hb.1,AA,⟨_,HM.1⟩,fun a ha=>by
    obtain ⟨j,hj,rfl⟩:=aag.1 a ha;exact (HO.1 j hj hj).sl⟩
theorem Ej {B:Nat} {W w:World} (hB:B<=W.heap.size) (h:Below B W w) (o:Obj):Below B W (w.alloc o):=h.alloc (EG hB h.size) o
theorem JG {B b i:Nat} {W w:World} (h:Below B W w) (hb:B<=b) (u:Value):Below B W (w.setCell ⟨b,i,none⟩ u):=h.setCell (p:=⟨b,i,none⟩) hb u
def lenV:Value->Nat
 | .slice _ n _=>n
 | _=>0
def Si (S:Int->Bool) (l:List Int) (x:Int):Bool:=S x || decide (x∈l)
theorem at7 (S:Int->Bool):Si S []=S:=by
 funext x;simp [Si]
theorem atA (S:Int->Bool) (l:List Int) (y:Int):(fun i=>if i=y then true else Si S l i)=Si S (l++[y]):=by
 funext x
 unfold Si;by_cases e:x=y
 · subst e;simp
 · simp [e]
theorem atB {f:Int->Int} {D:List Int} (hD:∀ x∈D,f x∈D) (hi:∀ x∈D,∀ y∈D,f x=f y->x=y) {x:Int} (hx:x∈D) {j:Nat} (hj:j<KZ f D x):pw f x j∉iter f x j/\pw f x j∈JZ f D x:=by
 obtain ⟨-,-,-,-,h5,-⟩:=Vl hD hi hx;constructor
 ·intro hm;obtain ⟨k,hk,e⟩:=U0.1 hm;unfold JZ List.Nodup at h5;rw [G9] at h5;have:=h5 k j (by rw [WL];omega) (by rw [WL];omega) hk
  rw [fJ,fJ] at this;exact this e
 · exact U0.2 ⟨j,hj,rfl⟩
theorem atC {f:Int->Int} {D:List Int} (hD:∀ x∈D,f x∈D) (hi:∀ x∈D,∀ y∈D,f x=f y->x=y) {x:Int} (hx:x∈D):pw f x (KZ f D x)∈JZ f D x:=by
 obtain ⟨h1,-,h3,-⟩:=Vl hD hi hx;rw [h3];exact U0.2 ⟨0,h1,rfl⟩
def atD (w:World) (gm n:Nat) (S:Int->Bool) (l:List Int) (e:Ending) (w':World):Prop :=
 ∃ A c,e=.returned (.slice A l.length c)/\Own w' w.heap.size 3 1 DY (.slice A l.length c) l/\Lr w' gm (n+l.length) (Si S l)/\w.grownBy w' (some gm)
theorem vX {w:World} {gm n:Nat} {f:Int->Bool} (h:Lr w gm n f) {g:Nat} {t:TypeId} {cs:Array Value} (hg:AO w g t cs):g≠gm:=by
 rintro rfl;obtain ⟨D,h1,-⟩:=h;obtain ⟨es,clock,h2,-⟩:=h1;unfold AO at hg;rw [hg] at h2
 cases h2
theorem mZ {w:World} {gm n:Nat} {f:Int->Bool} (h:Lr w gm n f) {base:Nat} {e:TypeId} {size:Nat} {α:Type} {fe:α->List Value} {v:Value} {l:List α} (ho:Own w base e size fe v l):v.ownBlock≠some gm:=by
 rcases ho.2 with ⟨rfl,_⟩ | ⟨g,cap,cur,rfl,_,hh,_⟩
 · simp [Value.ownBlock]
 ·intro e';exact vX h (cs:=cur) (g:=g) hh qO
theorem Own.GU {α:Type} {w:World} {base:Nat} {e:TypeId} {size:Nat} {f:α->List Value} {v:Value} {l:List α} (h:Own w base e size f v l):∃ A c,v=.slice A l.length c/\l.length<=c/\c<=maxLen:=by
 obtain ⟨A,c,rfl,h1,h2,-⟩:=Own.sl h;exact ⟨A,c,rfl,h1,h2⟩
theorem atE (f:Int->Int) (D:List Int) (hD:∀ x∈D,f x∈D) (hi:∀ x∈D,∀ y∈D,f x=f y->x=y) (F:Int->Int) (hF:∀ x∈D,F x=f x) (hw:∀ x∈D,F6 x) (hl:D.length<=100000) (S:Int->Bool) (d:Int) (hd:d∈D) (hS:∀ x∈JZ f D d,S x=false)
  (gs gn gm gk n m:Nat) (w:World) (hn:n<=1000000) (h1:AO w gs 158 #[.map (some gm)]) (h2:AO w gn 109 #[.map (some gk)]) (hm:Lr w gm n S) (hk:Gw w gk m F) (hne:gm≠gk) :
  Calls prog 122 #[.int .i64 d,.pointer (some ⟨gs,0,none⟩),.pointer (some ⟨gn,0,none⟩)] w (atD w gm n S (JZ f D d)):=by
 obtain ⟨o1,o2,o3,-,-,o6⟩:=Vl hD hi hd;obtain ⟨q,hq⟩:=BI (JZ f D d);have ajK:iter f d (KZ f D d)=q:=hq;have akl:=AB (fun j (hj:j<KZ f D d)=>atB hD hi hd hj);have gV:=AB (fun j=>XH (f:=f) hD hd j);have hend:=atC hD hi hd;rw [hq] at o6 hS hend akl ⊢;obtain ⟨HF,HW,HS,mg,aah,aai⟩:=Jz hF hw hS hend ajK o6;clear hF hw hS hend ajK o6 o3 hD hi hq hd;generalize KZ f D d=N at *;obtain ⟨Hm0,Hk0,H1,H2⟩:=DW hm hk h1 h2;have n1:=vX hm h1;have n2:=vX hm h2;have hlt1:=h1.lt;have hlt2:=h2.lt;have azf:=hm.lt;have hltk:=hk.lt;clear hm hk h1 h2;go_enter func122,ntmps122;go_wp2_with fail;go_loopw [0,4] (fun x s wr=>∃ j:Nat,j<=N/\x=.int .i64 (pw f d j)/\(∃ A c,s=.slice A j c)/\Own wr w.heap.size 3 1 DY s (iter f d j)/\Lr wr gm (n+j) (Si S (iter f d j))/\w.grownBy wr (some gm)) (fun _ s _=>N-lenV s)
 case atStart => exact ⟨0,BX _,rfl,⟨none,0,rfl⟩,Own.nil _ _ _ _ _,by rw [show iter f d 0=[] from rfl,at7];exact Hm0.1,gR w _⟩
 case round =>
  obtain ⟨j,hj,rfl,⟨A,c,rfl⟩,own,mp,hg⟩:=hrel;obtain ⟨HO,HM,HG⟩:=CG own mp hg;have X1:=H1.1.grow hg (fun e=>n1 (DV e));have tK:w.heap.size<=wr.heap.size:=hg.size;clear own mp hg;obtain ⟨y,hy⟩:=BI (pw f d j);have hym:=gV.1 j;have hy2:f y=pw f d (j+1):=by rw [<- hy];rfl
  have hFy:F y=pw f d (j+1):=by rw [<- hy2];exact HF.1 y (hy ▸ hym)
  have hwy:F6 y:=HW.1 y (hy ▸ hym);have aeC:=akl.1 j;have hlk:=HM.1.look y hwy;rw [hy] at aeC ⊢;obtain ⟨HY,HFy,HWy,HN⟩:=DW hy hFy hwy aeC;clear hym hy2 hFy hwy aeC;by_cases hlt:j<N
  ·have hsf:Si S (iter f d j) y=false:=by
    unfold Si;have h:=HN.1 hlt;rw [HS.1 y h.2];simpa using h.1
   rw [hsf] at hlk;obtain ⟨w3,hr3,PV,hg3⟩:=HM.1.upd AA y HWy.1 true;rw [atA] at PV;have hsn:iter f d j++[y]=iter f d (j+1):=by rw [aem,HY.1]
   rw [hsn] at PV;obtain ⟨Nq,Qj,G7⟩:=CG PV (gT HG.1 hg3) (Own.grown HO.1 hg3 (fun g' hg' e=>mZ HM.1 HO.1 (by rw [hg',e])));have hsz3:wr.heap.size<=w3.heap.size:=hg3.size;have nC:=AB hsn;clear hsf PV hg3 hsn hy;obtain ⟨BJ,BK,-⟩:=X1.LD;go_upto_region 3 with fail;clear hlk hr3 X1 BJ BK;go_upto_region 4 with
    (at_builtin
     refine FK _ rfl (.tmp 11) (.tmp 13) _ rfl (base:=w.heap.size) Jk JV Jl rfl (Own.alloc G7.1 _) rfl (l2:=[y]) (Sl.lit (n:=1) (AO.made rfl _ _) rfl (D7 AA)) acQ acQ DR ?_;intro v1 w1 ho1 hg1 MH;rw [nC.1] at ho1;obtain ⟨A1,c1,hv1,-⟩:=Own.GU ho1;rw [WL] at hv1;subst hv1;have Fp:=AB ho1;have hown:=G7.1.lt;have hG1:w.grownBy w1 (some gm):=⟨by rw [hg1.os];exact Qj.1.os,by rw [hg1.tape];exact Qj.1.tape,by rw [hg1.output];exact Qj.1.output,EG Qj.1.size (EG Ah hg1.size),fun i hi hne=>by
      rw [hg1.block i (by simp;have:=Qj.1.size;omega) (fun e=>by have:=(hown i e.symm).1;omega),<- Qj.1.block i hi hne];exact (bA (bR w3) (.cells #[.int .i64 y] 3)).block i (by have:=Qj.1.size;omega)⟩
     have nD:=AB hG1;have JO:=AB ((Nq.1.keep (bA (bR w3) (.cells #[.int .i64 y] 3))).kept hg1 (fun e=>mZ Nq.1 G7.1 e.symm));clear ho1 hg1 MH hG1 hown
     )
   have X2:=H2.1.grow nD.1 (fun e=>n2 (DV e));have hlk2:=(Hk0.1.kept nD.1 (fun e=>hne (DV e).symm)).look y HWy.1;rw [HFy.1] at hlk2;obtain ⟨Bh,Bq,-⟩:=X2.LD;go_wp2;go_roundw
   case rel => exact ⟨j+1,AA,rfl,⟨A1,c1,rfl⟩,Fp.1,JO.1,nD.1⟩
   case measure => simp only [lenV];omega
  ·have hjN:j=N:=AA
   subst hjN;have hst:Si S (iter f d j) y=true:=by
    unfold Si;have h:=mg.1;rw [HY.1,<- aah.1] at h;simp [h]
   rw [hst] at hlk;clear hst
   try clear BJ BK
   obtain ⟨BJ,BK,-⟩:=X1.LD;go_wp2;go_ret;rw [aah.1] at HO HM;have hL:=aai.1;have ho:=HO.1;have hm:=HM.1;subst hL;exact ⟨A,c,rfl,ho,hm,HG.1⟩
theorem aaj (l:List Int) (j:Nat):(l.flatMap DY)[j]? = (l[j]?).map (.int .i64 ·):=by
 induction l generalizing j with
 | nil=>simp
 | cons a l ih =>
  rw [N7]
  cases j with
  | zero=>rfl
  | succ j =>
   show (.int .i64 a::l.flatMap DY)[j+1]? = _
   rw [List.getElem?_cons_succ,ih,List.getElem?_cons_succ]
theorem aak (l:List Int):(l.flatMap DY).length=l.length:=by
 have:=flat_length DY 1 JV l
 omega
def akm (w:World) (base:Nat) (v:Value) (sl:List Int) (e:Ending) (w':World):Prop :=
 e=.returned (.tuple #[])/\Own w' base 3 1 DY v sl/\w.grownBy w' v.ownBlock
