import Derived.Test.YtialfdomhoojiaaGreatJ12
set_option linter.unusedSimpArgs false
set_option linter.unusedVariables false
namespace Go.Proofs.YtialfdomhoojiaaGreat
open Go.RowKit
theorem adA {α:Type} (l:List α) (f:α->Int) (h:∀ x∈l,0<=f x):0<=(l.map f).sum:=by
 induction l with
 | nil=>exact L8 _
 | cons a l ih =>
  rw [Ez,I8];have:=h a Ea
  have:=ih fun x hx=>h x (Gn _ hx)
  omega
theorem ahg {α:Type} (l:List α) (f:α->Int) (h:∀ x∈l,0<=f x) (h1:∃ x∈l,0<f x):0<(l.map f).sum:=by
 induction l with
 | nil=>obtain ⟨x,hx,-⟩:=h1;cases hx
 | cons a l ih =>
  rw [Ez,I8];have h0:=h a Ea;have h2:=adA l f fun x hx=>h x (Gn _ hx);obtain ⟨x,hx,hp⟩:=h1;rcases EJ.1 hx with rfl | hx
  · omega
  ·have:=ih (fun x hx=>h x (Gn _ hx)) ⟨x,hx,hp⟩
   omega
theorem adB {α:Type} (l:List α) (f:α->List Int):(l.flatMap f).sum=(l.map fun x=>(f x).sum).sum:=by
 induction l with
 | nil=>rfl
 | cons a l ih=>rw [Ju,OA,ih,Ez,I8]
def Lh (L:List (Int×Int)) (t:Int):Int:=(L.map fun v=>if t<v.1 then v.2 else 0).sum
def Xj (L:List (Int×Int)) (t:Int):Int:=(L.map fun v=>if t<=v.1 then v.2 else 0).sum
theorem adC {L:List (Int×Int)} (h2:∀ u∈L,u.2≠0->(Lh L u.1=0/\Xj L u.1=1)\/(Lh L u.1=1/\Xj L u.1=0)) :
  ∀ (n:Nat) (t:Int),(∀ v∈L,v.2≠0->v.1<=t+n)->Lh L t=0\/Lh L t=1
 | 0,t,h=>by
  left;refine WO _ _ fun v hv=>?_;by_cases h0:v.2=0
  · rw [h0];split<;>rfl
  ·have:=h v hv h0
   rw [AX AB]
 | n+1,t,h=>by
  by_cases hx:∃ v∈L,v.2≠0/\v.1=t+1
  ·obtain ⟨u,hu,h0,e⟩:=hx
   have:Lh L t=Xj L u.1:=by
    refine Gx _ _ _ fun v _=>?_;rw [e];by_cases c:t<v.1
    · rw [AZ c,AZ AB]
    · rw [AX c,AX AB]
   have:=h2 u hu h0
   omega
  ·have e:Lh L t=Lh L (t+1):=by
    refine Gx _ _ _ fun v hv=>?_;by_cases h0:v.2=0
    · rw [h0];split<;>split<;>rfl
    ·have:v.1≠t+1:=fun e=>hx ⟨v,hv,h0,e⟩
     by_cases c:t<v.1
     · rw [AZ c,AZ AB]
     · rw [AX c,AX AB]
   rw [e];refine adC h2 n (t+1) fun v hv h0=>?_;have:=h v hv h0
   omega
theorem adD:∀ (L:List (Int×Int)),∃ B:Nat,∀ v∈L,-(B:Int)<v.1/\v.1<B
 | []=>⟨0,fun _ h=>by cases h⟩
 | a::L=>by
  obtain ⟨B,hB⟩:=adD L;refine ⟨B+a.1.natAbs+1,fun v hv=>?_⟩;rcases EJ.1 hv with rfl | hv
  · omega
  ·have:=hB v hv
   omega
theorem cnt_lt (n m:Nat) (h:m<=n):((List.range n).map fun k:Nat=>if (k:Int)<m then (1:Int) else 0).sum=m:=by
 induction n generalizing m with
 | zero =>
  have:m=0:=by omega
  subst this;rfl
 | succ n ih =>
  rw [Zf,GL,OA];simp only [Ez,QE,I8,Xt];by_cases h1:m<=n
  · rw [ih m h1,AX AB];omega
  ·have hm:m=n+1:=by omega
   subst hm;rw [AZ AB];have:=ih n (DT _)
   rw [Gx _ _ (fun k:Nat=>if (k:Int)<n then (1:Int) else 0) (fun k hk=>by
    have:=F5.1 hk
    rw [AZ AB,AZ AB]),this]
   omega
theorem arX {L:List (Int×Int)} (h2:∀ u∈L,u.2≠0->(Lh L u.1=0/\Xj L u.1=1)\/(Lh L u.1=1/\Xj L u.1=0)) (h3:(L.map (·.2)).sum=0) :
  0<=(L.map fun u=>u.1*u.2).sum/\((∃ u∈L,u.2≠0)->0<(L.map fun u=>u.1*u.2).sum):=by
 obtain ⟨B,hB⟩:=adD L;have e:(L.map fun u=>u.1*u.2).sum=((List.range (2*B)).map fun k:Nat=>Lh L ((k:Int)-B)).sum:=by
  have e1:(L.map fun u=>u.1*u.2).sum=(L.map fun u=>u.1*u.2+(B:Int)*u.2).sum:=by
   rw [Sz L (fun u=>u.1*u.2) (fun u=>(B:Int)*u.2),Z8 L (B:Int) (fun u=>u.2),h3,KN,fP]
  rw [e1];unfold Lh;rw [aht];refine Gx _ _ _ fun u hu=>?_;have hb:=hB u hu;have c:=cnt_lt (2*B) (u.1+B).toNat AB;rw [Gx _ _ (fun k:Nat=>u.2*(if (k:Int)<(u.1+B).toNat then (1:Int) else 0)) (fun k hk=>by
   by_cases g:(k:Int)-B<u.1
   · rw [AZ g,AZ AB,Int.mul_one]
   · rw [AX g,AX AB,KN]),Z8,c,show (((u.1+B).toNat:Nat):Int)=u.1+B by omega]
  rw [<- ab3,KL]
 have W:∀ t,Lh L t=0\/Lh L t=1:=fun t=>adC h2 (B+t.natAbs) t fun v hv _=>by
  have:=hB v hv
  omega
 rw [e];refine ⟨adA _ _ fun k _=>?_,fun ⟨u,hu,h0⟩=>ahg _ _ (fun k _=>?_) ?_⟩
 · have:=W ((k:Int)-B);omega
 · have:=W ((k:Int)-B);omega
 ·have hb:=hB u hu;rcases h2 u hu h0 with ⟨-,g⟩ | ⟨g,-⟩
  ·refine ⟨(u.1-1+B).toNat,F5.2 AB,?_⟩;rw [show (((u.1-1+B).toNat:Nat):Int)-B=u.1-1 by omega]
   have:Lh L (u.1-1)=Xj L u.1:=by
    refine Gx _ _ _ fun v _=>?_;by_cases c:u.1<=v.1
    · rw [AZ c,AZ AB]
    · rw [AX c,AX AB]
   omega
  ·refine ⟨(u.1+B).toNat,F5.2 AB,?_⟩;rw [show (((u.1+B).toNat:Nat):Int)-B=u.1 by omega];omega
theorem ahh (T:Nat) (u v:Int) (m:Nat):∀ n:Nat,((List.range n).map fun j:Nat=>if 2*(j:Int)+1-2*T<2*((m:Int)-T) then u+v*(2*(j:Int)+1-2*T) else 0).sum=u*(min n m:Nat)+v*((min n m:Nat)*(min n m:Nat)-2*T*(min n m:Nat))
 | 0=>by simp
 | n+1=>by
  rw [Zf,GL,OA,ahh T u v m n];simp only [Ez,QE,I8,Xt,fP];by_cases h:n<m
  ·rw [AZ AB,Nat.min_eq_left AB,Nat.min_eq_left AB];rw [show ((n+1:Nat):Int)=(n:Int)+1 by omega]
   grind
  · rw [AX AB,abe AB,abe AB,fP]
def Jp (T j:Nat):Int:=2*(j:Int)+1-2*T
theorem aqi {T:Nat} {a b:Pt} (ha:-(T:Int)<=hY a/\hY a<=T) (hb:-(T:Int)<=hY b/\hY b<=T) :
  ((List.range (2*T)).map fun j=>EZ (Jp T j) a b*xN a b (Jp T j)).sum=(hY b-hY a)*(hY b-hY a)*(a.x+b.x):=by
 have f:∀ c:Pt,-(T:Int)<=hY c/\hY c<=T->((List.range (2*T)).map fun j=>if Jp T j<2*hY c then xN a b (Jp T j) else 0).sum=2*(a.x*hY b-b.x*hY a)*(hY c+T)+(b.x-a.x)*((hY c+T)*(hY c+T)-2*T*(hY c+T)):=by
  intro c hc;have:=ahh T (2*(a.x*hY b-b.x*hY a)) (b.x-a.x) (hY c+T).toNat (2*T)
  rw [abe AB,show (((hY c+T).toNat:Nat):Int)=hY c+T by omega] at this;rw [<- this];refine Gx _ _ _ fun j _=>?_;have e:xN a b (Jp T j)=2*(a.x*hY b-b.x*hY a)+(b.x-a.x)*Jp T j:=by unfold xN;grind
  rw [e,show hY c+(T:Int)-T=hY c by omega];rfl
 have e:((List.range (2*T)).map fun j=>EZ (Jp T j) a b*xN a b (Jp T j)).sum=((List.range (2*T)).map fun j=>(if Jp T j<2*hY b then xN a b (Jp T j) else 0) + -(if Jp T j<2*hY a then xN a b (Jp T j) else 0)).sum:=by
  refine Gx _ _ _ fun j _=>?_;unfold EZ;split<;>split<;>omega
 rw [e,Sz,Uj,f b hb,f a ha];generalize hY a=A;generalize hY b=B
 grind
theorem adE (p:Pl) (z:Int->Int) (c:Int) (f:Pt->Pt->Int):DX p z (fun a b=>c*f a b)=c*DX p z f:=by
 unfold DX Io;rw [<- Z8];refine Gx _ _ _ fun a _=>?_;rw [Z8,<- ru,KL (z a.id),ru]
theorem aqj (p:Pl) (z:Int->Int):DX p z (fun _ _=>0)=0:=by
 have:=adE p z 0 (fun _ _=>0)
 rw [JQ] at this;simpa using this
theorem ahi {β:Type} (p:Pl) (z:Int->Int) (f:β->Pt->Pt->Int):∀ l:List β,DX p z (fun a b=>(l.map fun j=>f j a b).sum)=(l.map fun j=>DX p z (f j)).sum
 | []=>aqj p z
 | j::l=>by
  simp only [Ez,I8];rw [iO p z (f j) (fun a b=>(l.map fun j=>f j a b).sum),ahi p z f l]
def xE (D:Int) (a b:Pt) (τ:Int):Int:=xN a b τ*(D / (hY b-hY a))
theorem aY (D:Int) (a b:Pt) (τ:Int):xE D b a τ=xE D a b τ:=by
 unfold xE;rw [arN,show hY a-hY b=-(hY b-hY a) by omega,Int.ediv_neg,Int.neg_mul_neg]
theorem yA {D:Int} (hD:0<D) {a b s t:Pt} {τ:Int} (hab:hY a<hY b) (hst:hY s<hY t) (d1:hY b-hY a∣D) (d2:hY t-hY s∣D) :
  (xE D s t τ<xE D a b τ↔0<dX a b s t τ)/\(xE D s t τ=xE D a b τ↔dX a b s t τ=0):=by
 obtain ⟨q,hq⟩:=d1;obtain ⟨r,hr⟩:=d2;unfold xE;have e1:D / (hY b-hY a)=q:=by rw [hq];exact sD _ AB
 have e2:D / (hY t-hY s)=r:=by rw [hr];exact sD _ AB
 rw [e1,e2];unfold dX;generalize xN a b τ=X at *;generalize xN s t τ=Y at *;have hn:0<hY b-hY a:=by omega
 have hm:0<hY t-hY s:=by omega
 generalize hY b-hY a=n at *;generalize hY t-hY s=m at *;have k:(X*q-Y*r)*(n*m)=D*(X*m-Y*n):=by
  have h1:(X*q-Y*r)*(n*m)=(n*q)*(X*m)-(m*r)*(Y*n):=by grind
  rw [h1,<- hq,<- hr,fO]
 have hnm:=JO hn hm;generalize n*m=w at *;generalize X*m-Y*n=x at *;have a1:0<X*q-Y*r->0<(X*q-Y*r)*w:=fun h=>JO h hnm;have a2:X*q-Y*r<0->(X*q-Y*r)*w<0:=fun h=>VI h hnm;have a3:X*q-Y*r=0->(X*q-Y*r)*w=0:=fun h=>by rw [h,JQ]
 have b1:0<x->0<D*x:=fun h=>JO hD h;have b2:x<0->D*x<0:=fun h=>Wj hD h;have b3:x=0->D*x=0:=fun h=>by rw [h,KN]
 rw [k] at a1 a2 a3;generalize D*x=Dx at *;generalize X*q=g1 at *;generalize Y*r=g2 at *;constructor<;>constructor<;>intro<;>omega
theorem adF:∀ l:List Int,(∀ x∈l,x≠0)->∃ D,0<D/\∀ x∈l,x∣D
 | [],_=>⟨1,AB,fun _ h=>by cases h⟩
 | a::l,h=>by
  obtain ⟨D,h1,h2⟩:=adF l fun x hx=>h x (Gn _ hx);have ha:=h a Ea;refine ⟨(a.natAbs:Int)*D,JO AB h1,fun x hx=>?_⟩;rcases EJ.1 hx with rfl | hx
  · exact Int.dvd_trans (Int.dvd_natAbs_self) (Int.dvd_mul_right _ _)
  · exact Int.dvd_trans (h2 x hx) (Int.dvd_mul_left _ _)
def NW (p:Pl) (z:Int->Int) (D τ:Int):List (Int×Int):=p.AU.flatMap fun a=>(List.range ((AV p a).length-1)).map fun k =>
 (xE D ((AV p a).getD k AY) ((AV p a).getD (k+1) AY) τ,z a.id*EZ τ ((AV p a).getD k AY) ((AV p a).getD (k+1) AY))
theorem pG (p:Pl) (z:Int->Int) (D τ:Int) (G:Int->Int->Int) (hG:∀ x c s,G x (c*s)=c*G x s) :
  ((NW p z D τ).map fun u=>G u.1 u.2).sum=DX p z (fun a b=>G (xE D a b τ) (EZ τ a b)):=by
 unfold NW DX Io;rw [rQ,adB];refine Gx _ _ _ fun a _=>?_;rw [Mc,<- Z8];refine Gx _ _ _ fun k _=>?_;exact hG _ _ _
section
variable {p:Pl} (h:Valid p)
include h
theorem Valid.yB {z:Int->Int} (hz:Fv p z) {a:Ar} (ha:a∈p.AU) {m:Nat} (hm:m+1<(AV p a).length) :
  LW p z ((AV p a).getD m AY) ((AV p a).getD (m+1) AY)=Hz p z (-a.id)/\LW p z ((AV p a).getD (m+1) AY) ((AV p a).getD m AY)=Hz p z a.id:=by
 have hl:=Eh p a;have hid:=(h.Gh ha).1;have s0:=h.ad4 hz ha hm;have s1:=h.aBa hz ha m hm;have s2:=h.aBa hz ha a.via.length AB;have hp:=h.Xh hz ha;have h2:(AV p a).getD (a.via.length+1) AY=nodeAt p a.dst:=by
  have:=WQ p a
  rwa [hl,show a.via.length+2-1=a.via.length+1 by omega] at this
 have hn:Hz p z (-a.id)=Oq p z ((AV p a).getD (a.via.length+1) AY) ((AV p a).getD a.via.length AY):=by
  unfold Hz;rw [h.wI ha,h.dS ha,h2]
 have j2:Oq p z ((AV p a).getD (m+1) AY) ((AV p a).getD m AY)-LW p z ((AV p a).getD (m+1) AY) ((AV p a).getD m AY)=-z a.id:=by
  by_cases h0:m+1=(AV p a).length-1
  ·obtain ⟨n,hn,e1,e2⟩:=h.sound.Yt ha;have:=h.ou hz hn (d:=-a.id) (Qz.2 ⟨a,ha,.inr ⟨rfl,e1.symm⟩⟩)
   rw [h.dS ha,show a.via.length=m by omega] at this;rw [h0,WQ,e2,this];unfold zD;rw [AX AB,Ob]
  · exact h.ai1 z ha AB
 omega
theorem Valid.aqk {z:Int->Int} {a:Ar} (ha:a∈p.AU) {m:Nat} (hm:m+1<(AV p a).length) {f:Pt->Pt->Int}
  (h0:∀ c∈p.AU,z c.id≠0->∀ k,k+1<(AV p c).length->¬ (c=a/\k=m)->f ((AV p c).getD k AY) ((AV p c).getD (k+1) AY)=0) :
  DX p z f=z a.id*f ((AV p a).getD m AY) ((AV p a).getD (m+1) AY):=by
 unfold DX Io;have:=vk p.AU (·.id) h.sound.AU (fun _=>z a.id*f ((AV p a).getD m AY) ((AV p a).getD (m+1) AY)) a.id ⟨a,ha,rfl⟩
 rw [<- this];refine Gx _ _ _ fun c hc=>?_;by_cases hz0:z c.id=0
 ·rw [hz0,JQ];by_cases e:a.id=c.id
  · rw [AZ e,e,hz0,JQ]
  · rw [AX e]
 by_cases e:a.id=c.id
 ·have:=h.aiJ ha hc e
  subst this;rw [AZ rfl,vg _ m (fun k=>f ((AV p a).getD k AY) ((AV p a).getD (k+1) AY)) (fun k hk hne=>h0 a ha hz0 k AB (fun e=>hne e.2)),AZ AB]
 · rw [AX e,WO _ _ (fun k hk=>h0 c hc hz0 k aAO (fun e2=>e (by rw [e2.1]))),KN]
def Tn (p:Pl) (z:Int->Int) (τ:Int):Prop:=∀ a∈p.AU,z a.id≠0->∀ k,k<(AV p a).length->2*hY ((AV p a).getD k AY)≠τ
omit h in
theorem Tn.odd (z:Int->Int) {τ:Int} (hτ:τ % 2=1):Tn p z τ:=fun a _ _ k _=>by omega
omit h in
theorem aAz {z:Int->Int} {f g:Pt->Pt->Int} (h:∀ a∈p.AU,z a.id≠0->∀ k,k+1<(AV p a).length->f ((AV p a).getD k AY) ((AV p a).getD (k+1) AY)=g ((AV p a).getD k AY) ((AV p a).getD (k+1) AY)):DX p z f=DX p z g:=by
 unfold DX Io;refine Gx _ _ _ fun a ha=>?_;by_cases h0:z a.id=0
 · rw [h0,JQ,JQ]
 · rw [Gx _ _ (fun k=>g ((AV p a).getD k AY) ((AV p a).getD (k+1) AY)) (fun k hk=>h a ha h0 k aAO)]
theorem Valid.beyond {z:Int->Int} (hz:Fv p z) {D:Int} (hD:0<D) (hd:∀ a∈p.AU,∀ k,k+1<(AV p a).length->hY ((AV p a).getD (k+1) AY)-hY ((AV p a).getD k AY)∣D)
  {τ:Int} (hτ:Tn p z τ) {c:Ar} (hc:c∈p.AU) {m:Nat} (hm:m+1<(AV p c).length) {s t:Pt}
  (he:(s=(AV p c).getD m AY/\t=(AV p c).getD (m+1) AY)\/(t=(AV p c).getD m AY/\s=(AV p c).getD (m+1) AY)) (h1:2*hY s<τ) (h2:τ<2*hY t) :
  DX p z (fun a b=>if xE D s t τ<xE D a b τ then EZ τ a b else 0)=LW p z s t:=by
 have ht:=h.oh hz (fun v=>-wR s t τ v);have e:DX p z (fun a b=>if xE D s t τ<xE D a b τ then EZ τ a b else 0)=DX p z (fun a b=>Pe s t a b+(-wR s t τ b - -wR s t τ a)):=by
  refine aAz fun a ha hza k hk=>?_;have na:=h.DW ha (k:=k) AB;have nb:=h.DW ha (k:=k+1) hk;have n1:=h.DW hc (k:=m) AB;have n2:=h.DW hc (k:=m+1) hm;have hne:=(h.distinct ha hk).1;have NM:=fun h1 h2 h3 h4=>h.acy ha hc hk hm h1 h2 h3 h4;have da:=hd a ha k hk;have fx:=hτ a ha hza k AB;have fy:=hτ a ha hza (k+1) hk;have dc:=hd c hc m hm;generalize (AV p a).getD k AY=x at *;generalize (AV p a).getD (k+1) AY=y at *;generalize (AV p c).getD m AY=e at *;generalize (AV p c).getD (m+1) AY=f at *;have ns:Bg s=true:=by rcases he with ⟨rfl,-⟩ | ⟨-,rfl⟩<;>assumption
  have nt:Bg t=true:=by rcases he with ⟨-,rfl⟩ | ⟨rfl,-⟩<;>assumption
  have dst:hY t-hY s∣D:=by
   rcases he with ⟨rfl,rfl⟩ | ⟨rfl,rfl⟩
   · exact dc
   · rw [show hY t-hY s=-(hY s-hY t) by omega];exact sF.2 dc
  have y8:x≠s->x≠t->y≠s->y≠t->MJ x y s t:=fun h1 h2 h3 h4=>by
   rcases he with ⟨rfl,rfl⟩ | ⟨rfl,rfl⟩
   · exact NM h1 h2 h3 h4
   · exact (NM h2 h1 h4 h3).comm.flip.comm
  have hst:hY s<hY t:=by omega
  have up:∀ {a b:Pt},2*hY a≠τ->2*hY b≠τ->Bg a=true->Bg b=true->hY a<hY b->hY b-hY a∣D->(a≠s->a≠t->b≠s->b≠t->MJ a b s t) ->
    (if xE D s t τ<xE D a b τ then EZ τ a b else 0)=Pe s t a b+(-wR s t τ b - -wR s t τ a):=by
   intro a b fa fb na nb hab da NM;have e:=arS na nb ns nt hab hst NM fa fb h1 h2;have k:=(yA (τ:=τ) hD hab hst da dst).1;have e2:Pe s t a b+(-wR s t τ b - -wR s t τ a)=Pe s t a b+(wR s t τ a-wR s t τ b):=by omega
   rw [e2,<- e];unfold EZ;by_cases g:0<dX a b s t τ
   ·rw [AZ (k.2 g)];by_cases g1:2*hY a<τ<;>by_cases g2:τ<2*hY b
    · rw [AZ g2,AX AB,AZ ⟨g1,g2,g⟩];rfl
    · rw [AX g2,AX AB,AX (fun e=>g2 e.2.1)];rfl
    · rw [AZ g2,AZ AB,AX (fun e=>g1 e.1)];rfl
    · omega
   · rw [AX (fun e=>g (k.1 e)),AX (fun e=>g e.2.2)]
  rcases Ic (hY x) (hY y) with c1 | c1 | c1
  · exact up fx fy na nb c1 da y8
  · exact absurd (MI na nb c1) hne
  ·have:=up fy fx nb na c1 (by rw [show hY x-hY y=-(hY y-hY x) by omega];exact sF.2 da) (fun h1 h2 h3 h4=>(y8 h3 h4 h1 h2).flip)
   rw [aY D x y τ,ahx s t x y] at this;have e3:EZ τ y x=-EZ τ x y:=by unfold EZ;omega
   rw [e3] at this;split at this<;>split<;>first | omega | contradiction
 rw [e,iO p z (Pe s t) (fun a b=>-wR s t τ b - -wR s t τ a),ht,fP];rfl
end
theorem aB0 {τ:Int} {x y:Pt} (hx:2*hY x≠τ) (hy:2*hY y≠τ) (h0:EZ τ x y≠0):(2*hY x<τ/\τ<2*hY y/\EZ τ x y=1)\/(2*hY y<τ/\τ<2*hY x/\EZ τ x y=-1):=by
 unfold EZ at *;by_cases c1:τ<2*hY y<;>by_cases c2:τ<2*hY x
 · exact absurd (by rw [AZ c1,AZ c2];rfl) h0
 · exact .inl ⟨AB,c1,by rw [AZ c1,AX c2];rfl⟩
 · exact .inr ⟨AB,c2,by rw [AX c1,AZ c2];rfl⟩
 · exact absurd (by rw [AX c1,AX c2];rfl) h0
section
variable {p:Pl} (h:Valid p)
include h
theorem Valid.aql {D:Int} (hD:0<D) (hd:∀ a∈p.AU,∀ k,k+1<(AV p a).length->hY ((AV p a).getD (k+1) AY)-hY ((AV p a).getD k AY)∣D)
  {τ:Int} {z:Int->Int} (hτ:Tn p z τ) {c d:Ar} (hc:c∈p.AU) (hzc:z c.id≠0) (hd':d∈p.AU) (hzd:z d.id≠0) {k m:Nat} (hk:k+1<(AV p c).length) (hm:m+1<(AV p d).length) (hne:¬ (c=d/\k=m))
  (h1:EZ τ ((AV p c).getD k AY) ((AV p c).getD (k+1) AY)≠0) (h2:EZ τ ((AV p d).getD m AY) ((AV p d).getD (m+1) AY)≠0) :
  xE D ((AV p d).getD m AY) ((AV p d).getD (m+1) AY) τ≠xE D ((AV p c).getD k AY) ((AV p c).getD (k+1) AY) τ:=by
 have dc:=hd c hc k hk;have dd:=hd d hd' m hm;have N:=fun a b s t=>h.arW (a:=a) (b:=b) (s:=s) (t:=t) hc hd' hk hm hne;have s1:=aB0 (hτ c hc hzc k AB) (hτ c hc hzc (k+1) hk) h1;have s2:=aB0 (hτ d hd' hzd m AB) (hτ d hd' hzd (m+1) hm) h2;generalize (AV p c).getD k AY=u at *;generalize (AV p c).getD (k+1) AY=v at *;generalize (AV p d).getD m AY=x at *;generalize (AV p d).getD (m+1) AY=y at *;have dc':hY u-hY v∣D:=by rw [show hY u-hY v=-(hY v-hY u) by omega];exact sF.2 dc
 have dd':hY x-hY y∣D:=by rw [show hY x-hY y=-(hY y-hY x) by omega];exact sF.2 dd
 intro e;rcases s1 with ⟨a1,a2,-⟩ | ⟨a1,a2,-⟩<;>rcases s2 with ⟨b1,b2,-⟩ | ⟨b1,b2,-⟩
 · exact N u v x y (.inl ⟨rfl,rfl⟩) (.inl ⟨rfl,rfl⟩) b1 b2 a1 a2 ((yA hD AB AB dc dd).2.1 e)
 · exact N u v y x (.inl ⟨rfl,rfl⟩) (.inr ⟨rfl,rfl⟩) b1 b2 a1 a2 ((yA hD AB AB dc dd').2.1 (by rw [aY];exact e))
 · exact N v u x y (.inr ⟨rfl,rfl⟩) (.inl ⟨rfl,rfl⟩) b1 b2 a1 a2 ((yA hD AB AB dc' dd).2.1 (by rw [aY D u v];exact e))
 · exact N v u y x (.inr ⟨rfl,rfl⟩) (.inr ⟨rfl,rfl⟩) b1 b2 a1 a2 ((yA hD AB AB dc' dd').2.1 (by rw [aY,aY D u v];exact e))
theorem Valid.adG {z:Int->Int} (hz:Fv p z) {D:Int} (hD:0<D) (hd:∀ a∈p.AU,∀ k,k+1<(AV p a).length->hY ((AV p a).getD (k+1) AY)-hY ((AV p a).getD k AY)∣D) {τ:Int} (hτ:Tn p z τ)
  {a:Ar} (ha:a∈p.AU) {k:Nat} (hk:k+1<(AV p a).length) (hs:(2*hY ((AV p a).getD k AY)<τ/\τ<2*hY ((AV p a).getD (k+1) AY))\/(2*hY ((AV p a).getD (k+1) AY)<τ/\τ<2*hY ((AV p a).getD k AY))) :
  Lh (NW p z D τ) (xE D ((AV p a).getD k AY) ((AV p a).getD (k+1) AY) τ)=(if hY ((AV p a).getD k AY)<hY ((AV p a).getD (k+1) AY) then Hz p z (-a.id) else Hz p z a.id) /\
  (z a.id≠0->Xj (NW p z D τ) (xE D ((AV p a).getD k AY) ((AV p a).getD (k+1) AY) τ)=(if hY ((AV p a).getD k AY)<hY ((AV p a).getD (k+1) AY) then Hz p z a.id else Hz p z (-a.id))):=by
 have hp:=h.Xh hz ha;obtain ⟨r1,r2⟩:=h.yB hz ha hk;have own:=fun (hz0:z a.id≠0) (hs0:EZ τ ((AV p a).getD k AY) ((AV p a).getD (k+1) AY)≠0)=>h.aqk (z:=z) ha hk (f:=fun x y=>if xE D ((AV p a).getD k AY) ((AV p a).getD (k+1) AY) τ=xE D x y τ then EZ τ x y else 0) (fun c hc hzc m hm hne=>by
  by_cases g:EZ τ ((AV p c).getD m AY) ((AV p c).getD (m+1) AY)=0
  · rw [g];split<;>rfl
  · exact AX (h.aql hD hd hτ hc hzc ha hz0 hm hk hne g hs0))
 rw [AZ rfl] at own;have by1:=h.beyond hz hD hd hτ ha hk (s:=(AV p a).getD k AY) (t:=(AV p a).getD (k+1) AY) (.inl ⟨rfl,rfl⟩);have aB1:=h.beyond hz hD hd hτ ha hk (t:=(AV p a).getD k AY) (s:=(AV p a).getD (k+1) AY) (.inr ⟨rfl,rfl⟩);rw [aY D ((AV p a).getD k AY)] at aB1;rw [r1] at by1;rw [r2] at aB1;have sg:EZ τ ((AV p a).getD k AY) ((AV p a).getD (k+1) AY)=if hY ((AV p a).getD k AY)<hY ((AV p a).getD (k+1) AY) then 1 else -1:=by
  unfold EZ;rcases hs with ⟨g1,g2⟩ | ⟨g1,g2⟩
  · rw [AZ g2,AX AB,AZ AB];rfl
  · rw [AX AB,AZ g2,AX AB];rfl
 generalize xE D ((AV p a).getD k AY) ((AV p a).getD (k+1) AY) τ=X at *;have bS:Lh (NW p z D τ) X=DX p z (fun a b=>if X<xE D a b τ then EZ τ a b else 0) :=
  pG p z D τ (fun x s=>if X<x then s else 0) (fun x c s=>by split<;>simp)
 have bE:Xj (NW p z D τ) X=DX p z (fun a b=>if X<xE D a b τ then EZ τ a b else 0)+DX p z (fun a b=>if X=xE D a b τ then EZ τ a b else 0):=by
  rw [<- iO];have:=pG p z D τ (fun x s=>if X<=x then s else 0) (fun x c s=>by split<;>simp)
  refine this.trans (vw fun c _ m _=>?_);rcases Ic X (xE D ((AV p c).getD m AY) ((AV p c).getD (m+1) AY) τ) with g | g | g
  · rw [AZ AB,AZ g,AX AB];omega
  · rw [AZ AB,AX AB,AZ g];omega
  · rw [AX AB,AX AB,AX AB];rfl
 rw [bS];have own':=fun hz0=>own hz0 (by rw [sg];split<;>omega);rcases hs with ⟨g1,g2⟩ | ⟨g1,g2⟩
 ·rw [AZ AB] at sg ⊢;rw [AZ AB];refine ⟨by1 g1 g2,fun hz0=>?_⟩;rw [bE,own' hz0,by1 g1 g2,sg];omega
 ·rw [AX AB] at sg ⊢;rw [AX AB];refine ⟨aB1 g1 g2,fun hz0=>?_⟩;rw [bE,own' hz0,aB1 g1 g2,sg];omega
theorem Valid.aqm {z:Int->Int} (hz:Fv p z) (D τ:Int):((NW p z D τ).map (·.2)).sum=0:=by
 rw [pG p z D τ (fun _ s=>s) (fun _ _ _=>rfl)];exact h.oh hz (fun v=>if τ<2*hY v then 1 else 0)
theorem Valid.ahj {z:Int->Int} (hz:Fv p z) (hw:∀ a∈p.AU,z a.id≠0->(Hz p z (-a.id)=0/\Hz p z a.id=1)\/(Hz p z (-a.id)=1/\Hz p z a.id=0))
  {D:Int} (hD:0<D) (hd:∀ a∈p.AU,∀ k,k+1<(AV p a).length->hY ((AV p a).getD (k+1) AY)-hY ((AV p a).getD k AY)∣D) {τ:Int} (hτ:Tn p z τ) :
  ∀ u∈NW p z D τ,u.2≠0->(Lh (NW p z D τ) u.1=0/\Xj (NW p z D τ) u.1=1)\/(Lh (NW p z D τ) u.1=1/\Xj (NW p z D τ) u.1=0):=by
 intro u hu hu0;obtain ⟨a,ha,hu⟩:=GY.1 hu;obtain ⟨k,hk,rfl⟩:=EM.1 hu;have hk:=F5.1 hk;have hk:k+1<(AV p a).length:=by omega
 simp only at hu0 ⊢;have hz0:z a.id≠0:=fun e=>hu0 (by rw [e,JQ]);have hs0:EZ τ ((AV p a).getD k AY) ((AV p a).getD (k+1) AY)≠0:=fun e=>hu0 (by rw [e,KN]);have hW:=hw a ha hz0;have hsp:=aB0 (hτ a ha hz0 k AB) (hτ a ha hz0 (k+1) hk) hs0;obtain ⟨b1,b2⟩:=h.adG hz hD hd hτ ha hk (by
  rcases hsp with ⟨g1,g2,-⟩ | ⟨g1,g2,-⟩
  · exact .inl ⟨g1,g2⟩
  · exact .inr ⟨g1,g2⟩)
 rw [b1,b2 hz0];split<;>omega
theorem Valid.aqn {z:Int->Int} (hz:Fv p z) (hw:∀ a∈p.AU,z a.id≠0->(Hz p z (-a.id)=0/\Hz p z a.id=1)\/(Hz p z (-a.id)=1/\Hz p z a.id=0))
  {D:Int} (hD:0<D) (hd:∀ a∈p.AU,∀ k,k+1<(AV p a).length->hY ((AV p a).getD (k+1) AY)-hY ((AV p a).getD k AY)∣D) {τ:Int} (hτ:τ % 2=1) :
  0<=DX p z (fun a b=>xE D a b τ*EZ τ a b)/\((∃ a∈p.AU,∃ k,k+1<(AV p a).length/\z a.id≠0/\EZ τ ((AV p a).getD k AY) ((AV p a).getD (k+1) AY)≠0)->0<DX p z (fun a b=>xE D a b τ*EZ τ a b)):=by
 have e0:=pG p z D τ (fun x s=>x*s) (fun x c s=>by grind);have:=arX (h.ahj hz hw hD hd (Tn.odd z hτ)) (h.aqm hz D τ)
 rw [e0] at this;refine ⟨this.1,fun ⟨a,ha,k,hk,h4,h5⟩=>this.2 ⟨(xE D ((AV p a).getD k AY) ((AV p a).getD (k+1) AY) τ,z a.id*EZ τ ((AV p a).getD k AY) ((AV p a).getD (k+1) AY)),?_,fun e=>?_⟩⟩
 · exact GY.2 ⟨a,ha,EM.2 ⟨k,F5.2 AB,rfl⟩⟩
 ·rcases Wn.1 e with e | e
  · exact h4 e
  · exact h5 e
theorem Valid.aqo {z:Int->Int} (hz:Fv p z) {T:Nat} (hT:∀ q,Bg q=true->-(T:Int)<=hY q/\hY q<=T)
  {D:Int} (hd:∀ a∈p.AU,∀ k,k+1<(AV p a).length->hY ((AV p a).getD (k+1) AY)-hY ((AV p a).getD k AY)∣D) :
  D*(8388608*DX p z Oo)=((List.range (2*T)).map fun j=>DX p z (fun a b=>xE D a b (Jp T j)*EZ (Jp T j) a b)).sum:=by
 rw [<- ahi p z (fun j a b=>xE D a b (Jp T j)*EZ (Jp T j) a b),<- adE,<- adE];have t:=h.oh hz (fun v=>D*(v.x*hY v));have e:DX p z (fun a b=>((List.range (2*T)).map fun j=>xE D a b (Jp T j)*EZ (Jp T j) a b).sum)=DX p z (fun a b=>D*(8388608*Oo a b)+(D*(b.x*hY b)-D*(a.x*hY a))):=by
  refine vw fun a ha k hk=>?_;have na:=h.DW ha (k:=k) AB;have nb:=h.DW ha (k:=k+1) hk;have hne:=(h.distinct ha hk).1;have da:=hd a ha k hk;generalize (AV p a).getD k AY=x at *;generalize (AV p a).getD (k+1) AY=y at *;have hn:hY y-hY x≠0:=fun e=>hne (MI na nb AB);have es:=aqi (hT x na) (hT y nb);obtain ⟨q,hq⟩:=da;have eq:D / (hY y-hY x)=q:=by rw [hq];exact sD _ hn
  unfold xE;rw [eq,Gx _ _ (fun j=>q*(EZ (Jp T j) x y*xN x y (Jp T j))) (fun j _=>by grind),Z8,es];have hc:8388608*Oo x y=x.x*hY y-y.x*hY x:=by unfold Oo hY;grind
  rw [hc,hq];generalize hY x=A;generalize hY y=B
  grind
 rw [e,iO p z (fun a b=>D*(8388608*Oo a b)) (fun a b=>D*(b.x*hY b)-D*(a.x*hY a)),t,fP]
theorem Valid.adH {z:Int->Int} (hz:Fv p z) (hw:∀ a∈p.AU,z a.id≠0->(Hz p z (-a.id)=0/\Hz p z a.id=1)\/(Hz p z (-a.id)=1/\Hz p z a.id=0)) :
  0<=DX p z Oo/\((∃ a∈p.AU,z a.id≠0)->0<DX p z Oo):=by
 obtain ⟨T,hT⟩:∃ T:Nat,∀ q,Bg q=true->-(T:Int)<=hY q/\hY q<=T:=⟨17592188141568,fun q hq=>by
  rw [Qq] at hq;unfold hY;omega⟩
 have hsep:∀ a∈p.AU,∀ k,k+1<(AV p a).length->hY ((AV p a).getD (k+1) AY)-hY ((AV p a).getD k AY)≠0:=fun a ha k hk e =>
  (h.distinct ha hk).1 (MI (h.DW ha AB) (h.DW ha hk) AB)
 obtain ⟨D,hD,hd⟩:∃ D:Int,0<D/\∀ a∈p.AU,∀ k,k+1<(AV p a).length->hY ((AV p a).getD (k+1) AY)-hY ((AV p a).getD k AY)∣D:=by
  obtain ⟨D,h1,h2⟩:=adF (p.AU.flatMap fun a=>(List.range ((AV p a).length-1)).map fun k=>hY ((AV p a).getD (k+1) AY)-hY ((AV p a).getD k AY)) (fun x hx=>by
   obtain ⟨a,ha,hx⟩:=GY.1 hx;obtain ⟨k,hk,rfl⟩:=EM.1 hx;exact hsep a ha k aAO)
  exact ⟨D,h1,fun a ha k hk=>h2 _ (GY.2 ⟨a,ha,EM.2 ⟨k,F5.2 AB,rfl⟩⟩)⟩
 have e:=h.aqo hz hT hd;have odd:∀ j,Jp T j % 2=1:=fun j=>by unfold Jp;omega
 have S:=fun j=>h.aqn hz hw hD hd (odd j);refine ⟨?_,fun ⟨a,ha,hza⟩=>?_⟩
 ·have h0:=adA (List.range (2*T)) (fun j=>DX p z (fun a b=>xE D a b (Jp T j)*EZ (Jp T j) a b)) (fun j _=>(S j).1);rw [<- e] at h0;apply MZ;intro hn;have:=Wj hD (show 8388608*DX p z Oo<0 by omega)
  omega
 ·have hl:=Eh p a;have hk:0+1<(AV p a).length:=by omega
  have hs:=hsep a ha 0 hk;have t0:=hT _ (h.DW ha (k:=0) AB);have t1:=hT _ (h.DW ha (k:=0+1) hk);have h0:=ahg (List.range (2*T)) (fun j=>DX p z (fun a b=>xE D a b (Jp T j)*EZ (Jp T j) a b)) (fun j _=>(S j).1) (by
   refine ⟨(min (hY ((AV p a).getD 0 AY)) (hY ((AV p a).getD (0+1) AY))+T).toNat,F5.2 AB,?_⟩;refine (S _).2 ⟨a,ha,0,hk,hza,?_⟩;unfold EZ Jp;generalize hY ((AV p a).getD 0 AY)=A at *;generalize hY ((AV p a).getD (0+1) AY)=B at *;have hj:(((min A B+T).toNat:Nat):Int)=min A B+T:=by omega
   rw [hj];by_cases c:A<B
   · rw [AZ AB,AX AB];omega
   · rw [AX AB,AZ AB];omega)
  rw [<- e] at h0;apply MZ;intro hn;have:=aAA (show 0<=D by omega) (show 8388608*DX p z Oo<=0 by omega)
  omega
end
set_option linter.unusedSectionVars false
def CP (X:List Int) (i:Int):Int:=(if i∈X then 1 else 0)-(if -i∈X then 1 else 0)
def F8 (p:Pl) (X:List Int):Int:=(X.map (V3 p)).sum
theorem aqp (P:List Pt):Io Oo P=Qg P:=by
 unfold Io Qg;generalize P.length-1=n
 induction n with
 | zero=>rfl
 | succ n ih=>rw [Zf,GL,OA,ih,Jb];simp
theorem aB2 (p:Pl) (z:Int->Int) (f:Pt->Pt->Int):DX p (fun i=>-z i) f=-DX p z f:=by
 unfold DX;rw [<- Uj];exact Gx _ _ _ fun a _=>by rw [OZ]
theorem yC {p:Pl} {z:Int->Int} {f:Pt->Pt->Int} (h0:∀ a∈p.AU,z a.id=0\/∀ k,k+1<(AV p a).length->f ((AV p a).getD k AY) ((AV p a).getD (k+1) AY)=0):DX p z f=0:=by
 unfold DX Io;refine WO _ _ fun a ha=>?_;rcases h0 a ha with e | e
 · rw [e,JQ]
 · rw [WO _ _ (fun k hk=>e k aAO),KN]
theorem adI {α:Type} (f:α->Int):∀ l:List α,l≠[]->∃ x∈l,∀ y∈l,f y<=f x
 | [],h=>absurd rfl h
 | [a],_=>⟨a,Aw,fun y hy=>by rw [ED] at hy;subst hy;exact L8 _⟩
 | a::b::l,_=>by
  obtain ⟨x,hx,hm⟩:=adI f (b::l) Aw;by_cases c:f a<=f x
  ·refine ⟨x,Gn _ hx,fun y hy=>?_⟩;rcases EJ.1 hy with rfl | hy
   · exact c
   · exact hm y hy
  ·refine ⟨a,Ea,fun y hy=>?_⟩;rcases EJ.1 hy with rfl | hy
   · exact L8 _
   · have:=hm y hy;omega
theorem aqr (p:Pl) (l:List Int) (k:Nat) (hk:k<=l.length):Nk p l k=((l.take k).map (V3 p)).sum:=by
 induction k with
 | zero=>simp [Nk]
 | succ k ih =>
  rw [Nk,ih AB,En (show k<l.length by omega),GL,OA,Fj,DK (show k<l.length by omega)];simp
section
variable {p:Pl} (h:Valid p)
include h
theorem Valid.aqs (F:Int->Int):((BU p).map F).sum=(p.AU.map fun a=>F a.id+F (-a.id)).sum:=by
 unfold BU;rw [GL,OA,aBd ((List.reverse_perm _).map F),Mc,Mc,Sz]
 show (p.AU.map fun a=>F (-a.id)).sum+(p.AU.map fun a=>F a.id).sum=_
 omega
theorem Valid.Gy {X:List Int} (hX:X∈CX p):X.Nodup/\(∀ d∈X,d∈BU p):=by
 obtain ⟨x,hx,e,-,-⟩:=h.Ph hX;have hD:∀ x∈BU p,FP p x∈BU p:=fun x hx=>(h.Qe hx).1;have hf:=WL hD (fun x hx y hy=>h.Xg hx hy) hx;rw [e];exact ⟨hf.2.2.2.2.1,fun d hd=>wG hD hx hd⟩
theorem Valid.adJ {X:List Int} (hX:X∈CX p) {d:Int} (hd:d∈BU p):FP p d∈X↔d∈X:=by
 obtain ⟨x,hx,e,-,-⟩:=h.Ph hX;rw [e];exact adU (fun x hx=>(h.Qe hx).1) (fun x hx y hy=>h.Xg hx hy) hx hd
theorem Valid.aB3 {X:List Int} (hX:X∈CX p) (F:Int->Int):(X.map F).sum=(p.AU.map fun a=>(if a.id∈X then F a.id else 0)+(if -a.id∈X then F (-a.id) else 0)).sum:=by
 obtain ⟨h1,h2⟩:=h.Gy hX;rw [<- h.aqs (fun d=>if d∈X then F d else 0)];have hp:((BU p).filter (fun d=>decide (d∈X))).Perm X:=by
  refine (sO (h.wK.filter _) h1).2 fun d=>?_;rw [QF,E8];exact ⟨fun h=>h.2,fun h=>⟨h2 d h,h⟩⟩
 rw [<- aBd (hp.map F)];generalize BU p=D
 induction D with
 | nil=>rfl
 | cons d D ih =>
  rw [Ez,I8,fQ];by_cases c:d∈X
  · rw [AZ (by simpa using c),AZ c,Ez,I8,ih]
  · rw [AX (by simpa using c),AX c,ih];omega
theorem Valid.aqt {X:List Int} (hX:X∈CX p):(X.map (FP p)).Perm X:=by
 obtain ⟨h1,h2⟩:=h.Gy hX;have hn:(X.map (FP p)).Nodup:=by
  rw [rZ,IL];rw [rZ] at h1;refine abd (fun {a b} ha hb hne e=>hne (h.Xg (h2 a ha) (h2 b hb) e)) h1
 refine (sO hn h1).2 fun y=>?_;rw [EM];constructor
 ·rintro ⟨x,hx,rfl⟩;exact (h.adJ hX (h2 x hx)).2 hx
 ·intro hy;obtain ⟨x,hx,e,-,-⟩:=h.Ph hX;have hf:=WL (fun x hx=>(h.Qe hx).1) (fun x hx y hy=>h.Xg hx hy) hx;rw [e] at hy ⊢;unfold JM at hy ⊢;obtain ⟨k,hk,rfl⟩:=Uz.1 hy
  cases k with
  | zero =>
   refine ⟨pw (FP p) x (LV (FP p) (BU p) x-1),Uz.2 ⟨_,AB,rfl⟩,?_⟩
   have:pw (FP p) x (LV (FP p) (BU p) x-1+1)=x:=by rw [ab7 hf.1];exact hf.2.2.1
   rw [pw] at this;exact this
  | succ k=>exact ⟨pw (FP p) x k,Uz.2 ⟨k,AB,rfl⟩,rfl⟩
theorem Valid.WS {X:List Int} (hX:X∈CX p):Fv p (CP X):=by
 intro n _;obtain ⟨h1,h2⟩:=h.Gy hX;have e1:=h.aB3 hX (fun d=>(if Ja p (-d)=n.id then 1 else 0)-(if Ja p d=n.id then 1 else 0));have e2:(X.map fun d=>((if Ja p (-d)=n.id then 1 else 0)-(if Ja p d=n.id then 1 else 0):Int)).sum=0:=by
  have e3:=aBd ((h.aqt hX).map fun d=>if Ja p d=n.id then (1:Int) else 0);rw [Mc] at e3;rw [Gx _ _ (fun d=>(if Ja p (FP p d)=n.id then (1:Int) else 0) + -(if Ja p d=n.id then 1 else 0)) (fun d hd=>by rw [(h.Qe (h2 d hd)).2];omega),Sz,Uj];have e4:(X.map fun d=>if Ja p (FP p d)=n.id then (1:Int) else 0).sum=(X.map ((fun d=>if Ja p d=n.id then (1:Int) else 0) ∘ FP p)).sum:=rfl;omega
 rw [e2] at e1;refine Eq.trans ?_ e1.symm;refine Gx _ _ _ fun a ha=>?_;simp only [Ob];rw [h.aBT ha,h.wI ha];unfold CP;generalize (if a.dst=n.id then (1:Int) else 0)=u;generalize (if a.fr=n.id then (1:Int) else 0)=v;by_cases c1:a.id∈X<;>by_cases c2:-a.id∈X<;>simp only [c1,c2,if_true,if_false]<;>omega
theorem Valid.aqu {a:Ar} (ha:a∈p.AU):V3 p a.id=Qg (AV p a)/\V3 p (-a.id)=-Qg (AV p a):=by
 have hid:=(h.Gh ha).1;unfold V3;rw [h.lW ha,h.wH ha];simp only;rw [AZ AB,AX AB];exact ⟨rfl,rfl⟩
theorem Valid.adK {X:List Int} (hX:X∈CX p):F8 p X=DX p (CP X) Oo:=by
 unfold F8 DX;rw [h.aB3 hX];refine Gx _ _ _ fun a ha=>?_;obtain ⟨e1,e2⟩:=h.aqu ha;rw [aqp,e1,e2];unfold CP;by_cases c1:a.id∈X<;>by_cases c2:-a.id∈X<;>simp only [c1,c2,if_true,if_false]<;>omega
theorem Valid.acg {X:List Int} (hX:X∈CX p) {d e:Int} (hd:d∈BU p) (he:e∈BU p) (hs:CQ p p.AU.length d=CQ p p.AU.length e) :
  Hz p (CP X) d-(if d∈X then 1 else 0)=Hz p (CP X) e-(if e∈X then 1 else 0):=by
 have hz:=h.WS hX;have hc:=h.arI (fun d=>Hz p (CP X) d-(if d∈X then 1 else 0)) (fun d hd=>by
  show Hz p (CP X) (FP p d)-(if FP p d∈X then 1 else 0)=_
  rw [h.arC hz hd];by_cases c:d∈X
  · rw [AZ c,AZ ((h.adJ hX hd).2 c)]
  · rw [AX c,AX (fun e=>c ((h.adJ hX hd).1 e))]) p.AU.length (DT _) (fun j hj _ _=>by
  have:=h.Xh hz (BH hj)
  unfold CP at this ⊢
  show Hz p _ p.AU[j].id-_=Hz p _ (-p.AU[j].id)-_
  omega)
 have h1:_=_:=hc d hd;have h2:_=_:=hc e he;rw [<- h1,<- h2,hs]
theorem Valid.aqv {r:Int} (hr:r∈BU p):∃ d∈BU p,CQ p p.AU.length d=CQ p p.AU.length r /\
  ∀ z,Fv p z->(∀ a∈p.AU,z a.id≠0->CQ p p.AU.length a.id=CQ p p.AU.length r)->Hz p z d=0:=by
 obtain ⟨q,hq,hmax⟩:=adI (fun q:Ar×Nat=>hY ((AV p q.1).getD q.2 AY)) (p.AU.flatMap fun a=>if CQ p p.AU.length a.id=CQ p p.AU.length r then (List.range (AV p a).length).map fun k=>(a,k) else []) (by
  obtain ⟨a,ha,e⟩:=Iy.1 hr;have hm:a.id∈BU p:=Iy.2 ⟨a,ha,.inl rfl⟩;have hs:CQ p p.AU.length a.id=CQ p p.AU.length r:=by
   rcases e with rfl | rfl
   · rfl
   · exact (h.WR hm).symm
  have hl:=Eh p a;intro e;have:(a,0)∈(p.AU.flatMap fun a=>if CQ p p.AU.length a.id=CQ p p.AU.length r then (List.range (AV p a).length).map fun k=>(a,k) else []) :=
   GY.2 ⟨a,ha,by rw [AZ hs];exact EM.2 ⟨0,F5.2 AB,rfl⟩⟩
  rw [e] at this
  cases this)
 obtain ⟨a,ha,hq⟩:=GY.1 hq;split at hq
 case isFalse => cases hq
 rename_i hsa;obtain ⟨k,hk,rfl⟩:=EM.1 hq;have hk:=F5.1 hk;simp only at hmax;have hl:=Eh p a;have top:∀ c∈p.AU,CQ p p.AU.length c.id=CQ p p.AU.length r->∀ m,m<(AV p c).length->hY ((AV p c).getD m AY)<=hY ((AV p a).getD k AY):=by
  intro c hc hs m hm;exact hmax (c,m) (GY.2 ⟨c,hc,by rw [AZ hs];exact EM.2 ⟨m,F5.2 hm,rfl⟩⟩)
 have loc:∀ z,(∀ a∈p.AU,z a.id≠0->CQ p p.AU.length a.id=CQ p p.AU.length r)->∀ u,LW p z ((AV p a).getD k AY) u=DX p z (Tm (fun x=>ind (ET ((AV p a).getD k AY) x u)) ((AV p a).getD k AY)):=by
  intro z hz u;generalize (AV p a).getD k AY=v at *;have e:LW p z v u=DX p z (fun a b=>NC a b v+Tm (fun x=>ind (ET v x u)) v a b):=by
   unfold LW;refine vw fun c _ m _=>?_;generalize (AV p c).getD m AY=x;generalize (AV p c).getD (m+1) AY=y;unfold Pe Tm ind;by_cases h1:x=v<;>by_cases h2:y=v<;>simp only [h1,h2,true_and,false_and,if_true,if_false]<;>omega
  rw [e,iO p z (fun a b=>NC a b v),yC (f:=fun a b=>NC a b v) (fun c hc=>?_),Int.zero_add];by_cases h0:z c.id=0
  · exact .inl h0
  ·right;intro m hm;have t1:=top c hc (hz c hc h0) m AB;have t2:=top c hc (hz c hc h0) (m+1) hm;unfold NC;rw [AX AB,AX AB]
 have hma:a.id∈BU p:=Iy.2 ⟨a,ha,.inl rfl⟩;have aqw:-a.id∈BU p:=Iy.2 ⟨a,ha,.inr rfl⟩;have node:∀ n∈p.nodes,(AV p a).getD k AY=n.pt->(a.id∈DF p n.id\/-a.id∈DF p n.id)->∃ d∈BU p,CQ p p.AU.length d=CQ p p.AU.length r /\
   ∀ z,Fv p z->(∀ a∈p.AU,z a.id≠0->CQ p p.AU.length a.id=CQ p p.AU.length r)->Hz p z d=0:=by
  intro n hn ev hor;rw [ev] at loc;have hpos:0<(DF p n.id).length:=by
   rcases hor with e | e<;>exact List.length_pos_of_mem e
  have h0m:(DF p n.id)[0]∈DF p n.id:=BH hpos;have h0d:=(h.N8 hn).subset h0m;obtain ⟨hdd,hst⟩:=h.iM h0d;refine ⟨-(DF p n.id)[0],WM hdd,?_,fun z hz hzs=>?_⟩
  ·rw [h.WR hdd];rcases hor with e | e
   · rw [h.ad7 hn h0m e];exact hsa
   · rw [h.ad7 hn h0m e,h.WR hma];exact hsa
  ·have hr0:LW p z n.pt (Dt p (DF p n.id)[0])=0:=by
    rw [loc z hzs,h.ad1 z _ hn];refine WO _ _ fun x hx=>?_;obtain ⟨j,hj,rfl⟩:=Dp.1 ((h.N8 hn).symm.subset hx)
    have:ind (ET n.pt (Dt p (DF p n.id)[j]) (Dt p (DF p n.id)[0]))=0:=by
     by_cases hj0:j=0
     · subst hj0;exact YP _ _
     · exact AX (iP (h.ai2 hn (i:=0) (j:=j) AB hj))
    rw [this,KN]
   have j:=h.ou hz hn h0d;have j2:=h.ai3 hz hdd;have e:Hz p z (DF p n.id)[0]=Oq p z n.pt (Dt p (DF p n.id)[0]):=by
    unfold Hz;rw [hst,h.sound.QM hn]
   omega
 by_cases h0:k=0
 ·subst h0;obtain ⟨n,hn,e1,e2⟩:=h.sound.XK ha;exact node n hn (by rw [WJ,e2]) (.inl ((h.N8 hn).symm.subset (Qz.2 ⟨a,ha,.inl ⟨rfl,e1.symm⟩⟩)))
 by_cases h1:k=(AV p a).length-1
 ·obtain ⟨n,hn,e1,e2⟩:=h.sound.Yt ha;exact node n hn (by rw [h1,WQ,e2]) (.inr ((h.N8 hn).symm.subset (Qz.2 ⟨a,ha,.inr ⟨rfl,e1.symm⟩⟩)))
 ·obtain ⟨m,rfl⟩:∃ m,k=m+1:=⟨k-1,AB⟩;have hin:m+2<(AV p a).length:=by omega
  have at_:=fun z φ=>h.aBY z φ ha (j:=m+1) AB hin;rcases h.ad3 ha hin with c | c
  ·refine ⟨a.id,hma,hsa,fun z hz hzs=>?_⟩;rw [<- (h.yB hz ha (m:=m) AB).2,loc z hzs,at_ z,show m+1-1=m by omega,show m+1+1=m+2 by omega,YP];rw [show ind (ET ((AV p a).getD (m+1) AY) ((AV p a).getD (m+2) AY) ((AV p a).getD m AY))=0 from AX (iP c),aAH,KN]
  ·refine ⟨-a.id,aqw,by rw [h.WR hma];exact hsa,fun z hz hzs=>?_⟩;rw [<- (h.yB hz ha (m:=m+1) AB).1,loc z hzs,at_ z,show m+1-1=m by omega,show m+1+1=m+2 by omega,YP];rw [show ind (ET ((AV p a).getD (m+1) AY) ((AV p a).getD m AY) ((AV p a).getD (m+2) AY))=0 from AX (iP c),aAH,KN]
theorem Valid.Xk {X:List Int} (hX:X∈CX p) {d e:Int} (hd:d∈X) (he:e∈X):CQ p p.AU.length d=CQ p p.AU.length e:=by
 have h2:=(h.Gy hX).2;refine h.ad6 (k:=0) (BZ _) (DT _) ?_
 show Pg (CX p) d=Pg (CX p) e
 rw [h.head_eq hX (h2 d hd) hd,h.head_eq hX (h2 e he) he]
theorem Valid.aqx {X:List Int} (hX:X∈CX p) {r d0:Int} (hr:r∈X) (hd:d0∈BU p) (hs:CQ p p.AU.length d0=CQ p p.AU.length r)
  (h0:∀ z,Fv p z->(∀ a∈p.AU,z a.id≠0->CQ p p.AU.length a.id=CQ p p.AU.length r)->Hz p z d0=0):0<F8 p X↔d0∉X:=by
 have hz:=h.WS hX;have h2:=(h.Gy hX).2;have yD:∀ a∈p.AU,CP X a.id≠0->CQ p p.AU.length a.id=CQ p p.AU.length r:=by
  intro a ha hne;have hma:a.id∈BU p:=Iy.2 ⟨a,ha,.inl rfl⟩;by_cases c1:a.id∈X
  · exact h.Xk hX c1 hr
  ·by_cases c2:-a.id∈X
   · rw [<- h.WR hma];exact h.Xk hX c2 hr
   · exact absurd aAM hne
 have hH:=h0 _ hz yD;have cl:∀ d∈BU p,CQ p p.AU.length d=CQ p p.AU.length r->Hz p (CP X) d=(if d∈X then 1 else 0)-(if d0∈X then 1 else 0):=by
  intro d hd' hsd;have:=h.acg hX hd' hd (by rw [hsd,hs])
  omega
 have two:∀ a∈p.AU,CP X a.id≠0->Hz p (CP X) a.id=(if a.id∈X then 1 else 0)-(if d0∈X then 1 else 0)/\Hz p (CP X) (-a.id)=(if -a.id∈X then 1 else 0)-(if d0∈X then 1 else 0):=by
  intro a ha hne;have hma:a.id∈BU p:=Iy.2 ⟨a,ha,.inl rfl⟩;exact ⟨cl _ hma (yD a ha hne),cl _ (WM hma) (by rw [h.WR hma];exact yD a ha hne)⟩
 rw [h.adK hX];by_cases c:d0∈X
 ·refine ⟨fun hp=>?_,fun hn=>absurd c hn⟩;exfalso;have hneg:Fv p (fun i=>-CP X i):=fun n hn=>by
   have:=hz n hn
   show (p.AU.map fun a=>-CP X a.id*((if a.dst=n.id then 1 else 0)-(if a.fr=n.id then 1 else 0))).sum=0
   refine (Gx _ _ (fun a:Ar=>-(CP X a.id*((if a.dst=n.id then (1:Int) else 0)-(if a.fr=n.id then 1 else 0)))) (fun a _=>OZ _ _)).trans ?_;rw [Uj,this];rfl
  have hN:∀ d,Hz p (fun i=>-CP X i) d=-Hz p (CP X) d:=fun d=>aB2 _ _ _;have:=(h.adH hneg (fun a ha hne=>by
   have hne':CP X a.id≠0:=fun e=>hne (by show -_=(0:Int);rw [e];rfl);obtain ⟨t1,t2⟩:=two a ha hne';rw [hN,hN,t1,t2,AZ c];unfold CP at hne';by_cases c1:a.id∈X<;>by_cases c2:-a.id∈X<;>simp only [c1,c2,if_true,if_false] at hne' ⊢ <;> omega)).1
  rw [aB2] at this;omega
 ·refine ⟨fun _=>c,fun _=>?_⟩;refine (h.adH hz (fun a ha hne=>by
   obtain ⟨t1,t2⟩:=two a ha hne;rw [t1,t2,AX c];unfold CP at hne;by_cases c1:a.id∈X<;>by_cases c2:-a.id∈X<;>simp only [c1,c2,if_true,if_false] at hne ⊢ <;> omega)).2 ?_
  apply MZ;intro hno;have h1:=cl r (h2 r hr) rfl;rw [AZ hr,AX c] at h1
  have:Hz p (CP X) r=0:=yC fun a ha=>.inl (MZ fun e=>hno ⟨a,ha,e⟩)
  omega
end
