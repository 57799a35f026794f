import Derived.Test.YtialfdomhoojiaaGreatQJ13
set_option linter.unusedSimpArgs false
set_option linter.unusedVariables false
namespace Go.Proofs.YtialfdomhoojiaaGreat
open Go.RowKit
set_option linter.unusedSectionVars false
def CZ (X:List Int) (i:Int):Int:=(if i∈X then 1 else 0)-(if -i∈X then 1 else 0)
def FB (p:Pl) (X:List Int):Int:=(X.map (QB p)).sum
theorem aqa (P:List Pt):J4 Oq P=QU P:=by
 unfold J4 QU;generalize P.length-1=n
 induction n with
 | zero=>rfl
 | succ n ih=>rw [Zr,GI,O7,ih,Jl];simp
theorem aCd (p:Pl) (z:Int->Int) (f:Pt->Pt->Int):Dn p (fun i=>-z i) f=-Dn p z f:=by
 unfold Dn;rw [<- Uo];exact Hu _ _ _ fun a _=>by rw [Oh]
theorem yB {p:Pl} {z:Int->Int} {f:Pt->Pt->Int} (h0:∀ a∈p.AP,z a.id=0\/∀ k,k+1<(AV p a).length->f ((AV p a).getD k AY) ((AV p a).getD (k+1) AY)=0):Dn p z f=0:=by
 unfold Dn J4;refine Wv _ _ fun a ha=>?_;rcases h0 a ha with e | e
 · rw [e,Jf]
 · rw [Wv _ _ (fun k hk=>e k aAU),KQ]
theorem ad7 {α:Type} (f:α->Int):∀ l:List α,l≠[]->∃ x∈l,∀ y∈l,f y<=f x
 | [],h=>absurd rfl h
 | [a],_=>⟨a,Ak,fun y hy=>by rw [EP] at hy;subst hy;exact KH _⟩
 | a::b::l,_=>by
  obtain ⟨x,hx,hm⟩:=ad7 f (b::l) Ak;by_cases c:f a<=f x
  ·refine ⟨x,I7 _ hx,fun y hy=>?_⟩;rcases EW.1 hy with rfl | hy
   · exact c
   · exact hm y hy
  ·refine ⟨a,Eu,fun y hy=>?_⟩;rcases EW.1 hy with rfl | hy
   · exact KH _
   · have:=hm y hy;omega
theorem aqb (p:Pl) (l:List Int) (k:Nat) (hk:k<=l.length):Nj p l k=((l.take k).map (QB p)).sum:=by
 induction k with
 | zero=>simp [Nj]
 | succ k ih =>
  rw [Nj,ih AB,F7 (show k<l.length by omega),GI,O7,Fj,Dh (show k<l.length by omega)];simp
section
variable {p:Pl} (h:Valid p)
include h
theorem Valid.aqc (F:Int->Int):((Bh p).map F).sum=(p.AP.map fun a=>F a.id+F (-a.id)).sum:=by
 unfold Bh;rw [GI,O7,aB9 ((List.reverse_perm _).map F),IV,IV,Sz]
 show (p.AP.map fun a=>F (-a.id)).sum+(p.AP.map fun a=>F a.id).sum=_
 omega
theorem Valid.Gq {X:List Int} (hX:X∈Ce p):X.Nodup/\(∀ d∈X,d∈Bh p):=by
 obtain ⟨x,hx,e,-,-⟩:=h.Ph hX;have hD:∀ x∈Bh p,FH p x∈Bh p:=fun x hx=>(h.QT hx).1;have hf:=Ws hD (fun x hx y hy=>h.Xn hx hy) hx;rw [e];exact ⟨hf.2.2.2.2.1,fun d hd=>wI hD hx hd⟩
theorem Valid.ad8 {X:List Int} (hX:X∈Ce p) {d:Int} (hd:d∈Bh p):FH p d∈X↔d∈X:=by
 obtain ⟨x,hx,e,-,-⟩:=h.Ph hX;rw [e];exact adK (fun x hx=>(h.QT hx).1) (fun x hx y hy=>h.Xn hx hy) hx hd
theorem Valid.aCe {X:List Int} (hX:X∈Ce p) (F:Int->Int):(X.map F).sum=(p.AP.map fun a=>(if a.id∈X then F a.id else 0)+(if -a.id∈X then F (-a.id) else 0)).sum:=by
 obtain ⟨h1,h2⟩:=h.Gq hX;rw [<- h.aqc (fun d=>if d∈X then F d else 0)];have hp:((Bh p).filter (fun d=>decide (d∈X))).Perm X:=by
  refine (aay (h.vM.filter _) h1).2 fun d=>?_;rw [QE,EO];exact ⟨fun h=>h.2,fun h=>⟨h2 d h,h⟩⟩
 rw [<- aB9 (hp.map F)];generalize Bh p=D
 induction D with
 | nil=>rfl
 | cons d D ih =>
  rw [FM,IJ,gq];by_cases c:d∈X
  · rw [AZ (by simpa using c),AZ c,FM,IJ,ih]
  · rw [AX (by simpa using c),AX c,ih];omega
theorem Valid.aqd {X:List Int} (hX:X∈Ce p):(X.map (FH p)).Perm X:=by
 obtain ⟨h1,h2⟩:=h.Gq hX;have hn:(X.map (FH p)).Nodup:=by
  rw [sH,I5];rw [sH] at h1;refine abP (fun {a b} ha hb hne e=>hne (h.Xn (h2 a ha) (h2 b hb) e)) h1
 refine (aay hn h1).2 fun y=>?_;rw [ED];constructor
 ·rintro ⟨x,hx,rfl⟩;exact (h.ad8 hX (h2 x hx)).2 hx
 ·intro hy;obtain ⟨x,hx,e,-,-⟩:=h.Ph hX;have hf:=Ws (fun x hx=>(h.QT hx).1) (fun x hx y hy=>h.Xn hx hy) hx;rw [e] at hy ⊢;unfold JZ at hy ⊢;obtain ⟨k,hk,rfl⟩:=Uk.1 hy
  cases k with
  | zero =>
   refine ⟨pw (FH p) x (LJ (FH p) (Bh p) x-1),Uk.2 ⟨_,AB,rfl⟩,?_⟩
   have:pw (FH p) x (LJ (FH p) (Bh p) x-1+1)=x:=by rw [aax hf.1];exact hf.2.2.1
   rw [pw] at this;exact this
  | succ k=>exact ⟨pw (FH p) x k,Uk.2 ⟨k,AB,rfl⟩,rfl⟩
theorem Valid.Vs {X:List Int} (hX:X∈Ce p):Fz p (CZ X):=by
 intro n _;obtain ⟨h1,h2⟩:=h.Gq hX;have e1:=h.aCe hX (fun d=>(if Kq p (-d)=n.id then 1 else 0)-(if Kq p d=n.id then 1 else 0));have e2:(X.map fun d=>((if Kq p (-d)=n.id then 1 else 0)-(if Kq p d=n.id then 1 else 0):Int)).sum=0:=by
  have e3:=aB9 ((h.aqd hX).map fun d=>if Kq p d=n.id then (1:Int) else 0);rw [IV] at e3;rw [Hu _ _ (fun d=>(if Kq p (FH p d)=n.id then (1:Int) else 0) + -(if Kq p d=n.id then 1 else 0)) (fun d hd=>by rw [(h.QT (h2 d hd)).2];omega),Sz,Uo];have e4:(X.map fun d=>if Kq p (FH p d)=n.id then (1:Int) else 0).sum=(X.map ((fun d=>if Kq p d=n.id then (1:Int) else 0) ∘ FH p)).sum:=rfl;omega
 rw [e2] at e1;refine Eq.trans ?_ e1.symm;refine Hu _ _ _ fun a ha=>?_;simp only [Oj];rw [h.aBb ha,h.wJ ha];unfold CZ;generalize (if a.dst=n.id then (1:Int) else 0)=u;generalize (if a.fr=n.id then (1:Int) else 0)=v;by_cases c1:a.id∈X<;>by_cases c2:-a.id∈X<;>simp only [c1,c2,if_true,if_false]<;>omega
theorem Valid.aqe {a:Ar} (ha:a∈p.AP):QB p a.id=QU (AV p a)/\QB p (-a.id)=-QU (AV p a):=by
 have hid:=(h.Gx ha).1;unfold QB;rw [h.iK ha,h.pF ha];simp only;rw [AZ AB,AX AB];exact ⟨rfl,rfl⟩
theorem Valid.ad9 {X:List Int} (hX:X∈Ce p):FB p X=Dn p (CZ X) Oq:=by
 unfold FB Dn;rw [h.aCe hX];refine Hu _ _ _ fun a ha=>?_;obtain ⟨e1,e2⟩:=h.aqe ha;rw [aqa,e1,e2];unfold CZ;by_cases c1:a.id∈X<;>by_cases c2:-a.id∈X<;>simp only [c1,c2,if_true,if_false]<;>omega
theorem Valid.adA {X:List Int} (hX:X∈Ce p) {d e:Int} (hd:d∈Bh p) (he:e∈Bh p) (hs:Cb p p.AP.length d=Cb p p.AP.length e) :
  Hz p (CZ X) d-(if d∈X then 1 else 0)=Hz p (CZ X) e-(if e∈X then 1 else 0):=by
 have hz:=h.Vs hX;have hc:=h.ar2 (fun d=>Hz p (CZ X) d-(if d∈X then 1 else 0)) (fun d hd=>by
  show Hz p (CZ X) (FH p d)-(if FH p d∈X then 1 else 0)=_
  rw [h.apT hz hd];by_cases c:d∈X
  · rw [AZ c,AZ ((h.ad8 hX hd).2 c)]
  · rw [AX c,AX (fun e=>c ((h.ad8 hX hd).1 e))]) p.AP.length (Dc _) (fun j hj _ _=>by
  have:=h.Xo hz (BO hj)
  unfold CZ at this ⊢
  show Hz p _ p.AP[j].id-_=Hz p _ (-p.AP[j].id)-_
  omega)
 have h1:_=_:=hc d hd;have h2:_=_:=hc e he;rw [<- h1,<- h2,hs]
theorem Valid.aqf {r:Int} (hr:r∈Bh p):∃ d∈Bh p,Cb p p.AP.length d=Cb p p.AP.length r /\
  ∀ z,Fz p z->(∀ a∈p.AP,z a.id≠0->Cb p p.AP.length a.id=Cb p p.AP.length r)->Hz p z d=0:=by
 obtain ⟨q,hq,hmax⟩:=ad7 (fun q:Ar×Nat=>hY ((AV p q.1).getD q.2 AY)) (p.AP.flatMap fun a=>if Cb p p.AP.length a.id=Cb p p.AP.length r then (List.range (AV p a).length).map fun k=>(a,k) else []) (by
  obtain ⟨a,ha,e⟩:=Iq.1 hr;have hm:a.id∈Bh p:=Iq.2 ⟨a,ha,.inl rfl⟩;have hs:Cb p p.AP.length a.id=Cb p p.AP.length r:=by
   rcases e with rfl | rfl
   · rfl
   · exact (h.Vr hm).symm
  have hl:=Ey p a;intro e;have:(a,0)∈(p.AP.flatMap fun a=>if Cb p p.AP.length a.id=Cb p p.AP.length r then (List.range (AV p a).length).map fun k=>(a,k) else []) :=
   Gf.2 ⟨a,ha,by rw [AZ hs];exact ED.2 ⟨0,Et.2 AB,rfl⟩⟩
  rw [e] at this
  cases this)
 obtain ⟨a,ha,hq⟩:=Gf.1 hq;split at hq
 case isFalse => cases hq
 rename_i hsa;obtain ⟨k,hk,rfl⟩:=ED.1 hq;have hk:=Et.1 hk;simp only at hmax;have hl:=Ey p a;have top:∀ c∈p.AP,Cb p p.AP.length c.id=Cb p p.AP.length r->∀ m,m<(AV p c).length->hY ((AV p c).getD m AY)<=hY ((AV p a).getD k AY):=by
  intro c hc hs m hm;exact hmax (c,m) (Gf.2 ⟨c,hc,by rw [AZ hs];exact ED.2 ⟨m,Et.2 hm,rfl⟩⟩)
 have loc:∀ z,(∀ a∈p.AP,z a.id≠0->Cb p p.AP.length a.id=Cb p p.AP.length r)->∀ u,LM p z ((AV p a).getD k AY) u=Dn p z (TU (fun x=>ind (Ef ((AV p a).getD k AY) x u)) ((AV p a).getD k AY)):=by
  intro z hz u;generalize (AV p a).getD k AY=v at *;have e:LM p z v u=Dn p z (fun a b=>NK a b v+TU (fun x=>ind (Ef v x u)) v a b):=by
   unfold LM;refine xk fun c _ m _=>?_;generalize (AV p c).getD m AY=x;generalize (AV p c).getD (m+1) AY=y;unfold Pe TU ind;by_cases h1:x=v<;>by_cases h2:y=v<;>simp only [h1,h2,true_and,false_and,if_true,if_false]<;>omega
  rw [e,jE p z (fun a b=>NK a b v),yB (f:=fun a b=>NK a b v) (fun c hc=>?_),Int.zero_add];by_cases h0:z c.id=0
  · exact .inl h0
  ·right;intro m hm;have t1:=top c hc (hz c hc h0) m AB;have t2:=top c hc (hz c hc h0) (m+1) hm;unfold NK;rw [AX AB,AX AB]
 have hma:a.id∈Bh p:=Iq.2 ⟨a,ha,.inl rfl⟩;have aqg:-a.id∈Bh p:=Iq.2 ⟨a,ha,.inr rfl⟩;have node:∀ n∈p.nodes,(AV p a).getD k AY=n.pt->(a.id∈DL p n.id\/-a.id∈DL p n.id)->∃ d∈Bh p,Cb p p.AP.length d=Cb p p.AP.length r /\
   ∀ z,Fz p z->(∀ a∈p.AP,z a.id≠0->Cb p p.AP.length a.id=Cb p p.AP.length r)->Hz p z d=0:=by
  intro n hn ev hor;rw [ev] at loc;have hpos:0<(DL p n.id).length:=by
   rcases hor with e | e<;>exact abS e
  have h0m:(DL p n.id)[0]∈DL p n.id:=BO hpos;have h0d:=(h.NI hn).subset h0m;obtain ⟨hdd,hst⟩:=h.jD h0d;refine ⟨-(DL p n.id)[0],Wu hdd,?_,fun z hz hzs=>?_⟩
  ·rw [h.Vr hdd];rcases hor with e | e
   · rw [h.acu hn h0m e];exact hsa
   · rw [h.acu hn h0m e,h.Vr hma];exact hsa
  ·have hr0:LM p z n.pt (Dy p (DL p n.id)[0])=0:=by
    rw [loc z hzs,h.acn z _ hn];refine Wv _ _ fun x hx=>?_;obtain ⟨j,hj,rfl⟩:=EF.1 ((h.NI hn).symm.subset hx)
    have:ind (Ef n.pt (Dy p (DL p n.id)[j]) (Dy p (DL p n.id)[0]))=0:=by
     by_cases hj0:j=0
     · subst hj0;exact Yz _ _
     · exact AX (jF (h.ahu hn (i:=0) (j:=j) AB hj))
    rw [this,KQ]
   have j:=h.oG hz hn h0d;have j2:=h.ahv hz hdd;have e:Hz p z (DL p n.id)[0]=Ot p z n.pt (Dy p (DL p n.id)[0]):=by
    unfold Hz;rw [hst,h.sound.QN hn]
   omega
 by_cases h0:k=0
 ·subst h0;obtain ⟨n,hn,e1,e2⟩:=h.sound.Xk ha;exact node n hn (by rw [Wp,e2]) (.inl ((h.NI hn).symm.subset (Rl.2 ⟨a,ha,.inl ⟨rfl,e1.symm⟩⟩)))
 by_cases h1:k=(AV p a).length-1
 ·obtain ⟨n,hn,e1,e2⟩:=h.sound.Yj ha;exact node n hn (by rw [h1,Wx,e2]) (.inr ((h.NI hn).symm.subset (Rl.2 ⟨a,ha,.inr ⟨rfl,e1.symm⟩⟩)))
 ·obtain ⟨m,rfl⟩:∃ m,k=m+1:=⟨k-1,AB⟩;have hin:m+2<(AV p a).length:=by omega
  have at_:=fun z φ=>h.aB4 z φ ha (j:=m+1) AB hin;rcases h.acp ha hin with c | c
  ·refine ⟨a.id,hma,hsa,fun z hz hzs=>?_⟩;rw [<- (h.yA hz ha (m:=m) AB).2,loc z hzs,at_ z,show m+1-1=m by omega,show m+1+1=m+2 by omega,Yz];rw [show ind (Ef ((AV p a).getD (m+1) AY) ((AV p a).getD (m+2) AY) ((AV p a).getD m AY))=0 from AX (jF c),aAK,KQ]
  ·refine ⟨-a.id,aqg,by rw [h.Vr hma];exact hsa,fun z hz hzs=>?_⟩;rw [<- (h.yA hz ha (m:=m+1) AB).1,loc z hzs,at_ z,show m+1-1=m by omega,show m+1+1=m+2 by omega,Yz];rw [show ind (Ef ((AV p a).getD (m+1) AY) ((AV p a).getD m AY) ((AV p a).getD (m+2) AY))=0 from AX (jF c),aAK,KQ]
theorem Valid.Xq {X:List Int} (hX:X∈Ce p) {d e:Int} (hd:d∈X) (he:e∈X):Cb p p.AP.length d=Cb p p.AP.length e:=by
 have h2:=(h.Gq hX).2;refine h.acs (k:=0) (Bv _) (Dc _) ?_
 show Pg (Ce p) d=Pg (Ce p) e
 rw [h.head_eq hX (h2 d hd) hd,h.head_eq hX (h2 e he) he]
theorem Valid.aqh {X:List Int} (hX:X∈Ce p) {r d0:Int} (hr:r∈X) (hd:d0∈Bh p) (hs:Cb p p.AP.length d0=Cb p p.AP.length r)
  (h0:∀ z,Fz p z->(∀ a∈p.AP,z a.id≠0->Cb p p.AP.length a.id=Cb p p.AP.length r)->Hz p z d0=0):0<FB p X↔d0∉X:=by
 have hz:=h.Vs hX;have h2:=(h.Gq hX).2;have yC:∀ a∈p.AP,CZ X a.id≠0->Cb p p.AP.length a.id=Cb p p.AP.length r:=by
  intro a ha hne;have hma:a.id∈Bh p:=Iq.2 ⟨a,ha,.inl rfl⟩;by_cases c1:a.id∈X
  · exact h.Xq hX c1 hr
  ·by_cases c2:-a.id∈X
   · rw [<- h.Vr hma];exact h.Xq hX c2 hr
   · exact absurd aAT hne
 have hH:=h0 _ hz yC;have cl:∀ d∈Bh p,Cb p p.AP.length d=Cb p p.AP.length r->Hz p (CZ X) d=(if d∈X then 1 else 0)-(if d0∈X then 1 else 0):=by
  intro d hd' hsd;have:=h.adA hX hd' hd (by rw [hsd,hs])
  omega
 have two:∀ a∈p.AP,CZ X a.id≠0->Hz p (CZ X) a.id=(if a.id∈X then 1 else 0)-(if d0∈X then 1 else 0)/\Hz p (CZ X) (-a.id)=(if -a.id∈X then 1 else 0)-(if d0∈X then 1 else 0):=by
  intro a ha hne;have hma:a.id∈Bh p:=Iq.2 ⟨a,ha,.inl rfl⟩;exact ⟨cl _ hma (yC a ha hne),cl _ (Wu hma) (by rw [h.Vr hma];exact yC a ha hne)⟩
 rw [h.ad9 hX];by_cases c:d0∈X
 ·refine ⟨fun hp=>?_,fun hn=>absurd c hn⟩;exfalso;have hneg:Fz p (fun i=>-CZ X i):=fun n hn=>by
   have:=hz n hn
   show (p.AP.map fun a=>-CZ X a.id*((if a.dst=n.id then 1 else 0)-(if a.fr=n.id then 1 else 0))).sum=0
   refine (Hu _ _ (fun a:Ar=>-(CZ X a.id*((if a.dst=n.id then (1:Int) else 0)-(if a.fr=n.id then 1 else 0)))) (fun a _=>Oh _ _)).trans ?_;rw [Uo,this];rfl
  have hN:∀ d,Hz p (fun i=>-CZ X i) d=-Hz p (CZ X) d:=fun d=>aCd _ _ _;have:=(h.ad6 hneg (fun a ha hne=>by
   have hne':CZ X a.id≠0:=fun e=>hne (by show -_=(0:Int);rw [e];rfl);obtain ⟨t1,t2⟩:=two a ha hne';rw [hN,hN,t1,t2,AZ c];unfold CZ at hne';by_cases c1:a.id∈X<;>by_cases c2:-a.id∈X<;>simp only [c1,c2,if_true,if_false] at hne' ⊢ <;> omega)).1
  rw [aCd] at this;omega
 ·refine ⟨fun _=>c,fun _=>?_⟩;refine (h.ad6 hz (fun a ha hne=>by
   obtain ⟨t1,t2⟩:=two a ha hne;rw [t1,t2,AX c];unfold CZ at hne;by_cases c1:a.id∈X<;>by_cases c2:-a.id∈X<;>simp only [c1,c2,if_true,if_false] at hne ⊢ <;> omega)).2 ?_
  apply NV;intro hno;have h1:=cl r (h2 r hr) rfl;rw [AZ hr,AX c] at h1
  have:Hz p (CZ X) r=0:=yB fun a ha=>.inl (NV fun e=>hno ⟨a,ha,e⟩)
  omega
end
set_option linter.unusedSectionVars false
def TB (v a b:Pt):Int:=if a.y<=v.y/\v.y<b.y/\0<tw a b v then 1 else if b.y<=v.y/\v.y<a.y/\0<tw b a v then -1 else 0
def QV (p:Pl) (z:Int->Int) (v:Pt):Int:=Dn p z (TB v)
def J5 (a b v:Pt):Prop:=tw a b v=0/\min a.x b.x<=v.x/\v.x<=max a.x b.x/\min a.y b.y<=v.y/\v.y<=max a.y b.y
instance (a b v:Pt):Decidable (J5 a b v):=by unfold J5;infer_instance
def Ur (p:Pl) (z:Int->Int) (v:Pt):Prop:=∀ a∈p.AP,z a.id≠0->∀ k,k+1<(AV p a).length->¬ J5 ((AV p a).getD k AY) ((AV p a).getD (k+1) AY) v
theorem aqi (a b v:Pt):xN a b (2*hY v)-2*v.x*(hY b-hY a)=16777216*tw a b v:=by unfold xN tw hY;grind
theorem aj3 {D:Int} (hD:0<D) {a b v:Pt} (hab:hY a<hY b) (hd:hY b-hY a∣D):2*D*v.x<xE D a b (2*hY v)↔0<tw a b v:=by
 obtain ⟨q,hq⟩:=hd;unfold xE;have e1:D / (hY b-hY a)=q:=by rw [hq];exact sK _ AB
 have hx:=aqi a b v;have hn:0<hY b-hY a:=by omega
 rw [e1];generalize hY b-hY a=n at *;generalize xN a b (2*hY v)=X at *;have hqp:0<q:=by
  rcases Ik q 0 with g | g | g
  · have:=XK hn g;omega
  · subst g;rw [KQ] at hq;omega
  · exact g
 have k:X*q-2*D*v.x=(X-2*v.x*n)*q:=by rw [hq];grind
 rw [hx] at k;have s1:0<tw a b v->0<16777216*tw a b v*q:=fun h=>Jg AB hqp;have s2:tw a b v<=0->16777216*tw a b v*q<=0:=fun h=>aAC AB AB;generalize tw a b v=t at *;constructor<;>intro<;>omega
theorem aCf (p:Pl) (z u:Int->Int) (f:Pt->Pt->Int):Dn p (fun i=>z i+u i) f=Dn p z f+Dn p u f:=by
 unfold Dn;rw [<- Sz];exact Hu _ _ _ fun a _=>by rw [aat]
theorem Fz.add {p:Pl} {z u:Int->Int} (h1:Fz p z) (h2:Fz p u):Fz p (fun i=>z i+u i):=fun n hn=>by
 have e1:=h1 n hn;have e2:=h2 n hn;refine (Hu _ _ (fun a:Ar=>z a.id*((if a.dst=n.id then (1:Int) else 0)-(if a.fr=n.id then 1 else 0))+u a.id*((if a.dst=n.id then (1:Int) else 0)-(if a.fr=n.id then 1 else 0))) (fun a _=>aat _ _ _)).trans ?_;rw [Sz,e1,e2];rfl
theorem Fz.neg {p:Pl} {z:Int->Int} (h1:Fz p z):Fz p (fun i=>-z i):=fun n hn=>by
 have e1:=h1 n hn;refine (Hu _ _ (fun a:Ar=>-(z a.id*((if a.dst=n.id then (1:Int) else 0)-(if a.fr=n.id then 1 else 0)))) (fun a _=>Oh _ _)).trans ?_;rw [Uo,e1];rfl
theorem aqj {D:Int} (hD:0<D) {a b v:Pt} (na:C9 a=true) (nb:C9 b=true) (nv:C9 v=true) (hne:a≠b) (hd:hY b-hY a∣D) (hav:a≠v) (hbv:b≠v) (hoff:¬ J5 a b v) :
  TB v a b=(if 2*D*v.x<xE D a b (2*hY v) then Em (2*hY v) a b else 0)+((if a.y=v.y/\v.x<a.x then 1 else 0)-(if b.y=v.y/\v.x<b.x then 1 else 0)):=by
 have key:∀ {a b:Pt},C9 a=true->C9 b=true->hY a<hY b->hY b-hY a∣D->a≠v->b≠v->¬ J5 a b v ->
   TB v a b=(if 2*D*v.x<xE D a b (2*hY v) then Em (2*hY v) a b else 0)+((if a.y=v.y/\v.x<a.x then 1 else 0)-(if b.y=v.y/\v.x<b.x then 1 else 0)):=by
  intro a b na nb hab hd hav hbv hoff;have hx:=aj3 hD (v:=v) hab hd;simp only [hx];rw [Qr] at na nb nv;have ha:¬ (a.x=v.x/\a.y=v.y):=fun e=>hav (Pt.ext_iff'.2 e);have hb:¬ (b.x=v.x/\b.y=v.y):=fun e=>hbv (Pt.ext_iff'.2 e);have tba:tw b a v=-tw a b v:=by unfold tw;grind
  unfold TB Em J5 at *;rw [tba];unfold hY at *;have s1:a.y=v.y->tw a b v=(b.y-a.y)*(a.x-v.x):=fun e=>by unfold tw;rw [e];grind
  have s2:b.y=v.y->tw a b v=(b.y-a.y)*(b.x-v.x):=fun e=>by unfold tw;rw [e];grind
  have p1:∀ {x y:Int},0<x->0<y->0<x*y:=fun h1 h2=>Jg h1 h2;have p2:∀ {x y:Int},0<x->y<0->x*y<0:=fun h1 h2=>XK h1 h2;generalize tw a b v=t at *;by_cases hy:a.y=b.y
  ·have hx2:a.x<b.x:=by omega
   have e1:¬ (a.y<=v.y/\v.y<b.y/\0<t):=by omega
   have e2:¬ (b.y<=v.y/\v.y<a.y/\0 < -t):=by omega
   rw [AX e1,AX e2];by_cases hv:a.y=v.y
   ·have t0:t=0:=by rw [s1 hv,hy,aAK,Jf]
    rw [AX (show ¬ 0<t by omega)];by_cases c:v.x<a.x
    · rw [AZ ⟨hv,c⟩,AZ AB];rfl
    ·have:¬ v.x<b.x:=fun c2=>hoff ⟨t0,AB⟩
     rw [AX AB,AX AB];rfl
   ·rw [AX (show ¬ (a.y=v.y/\v.x<a.x) by omega),AX (show ¬ (b.y=v.y/\v.x<b.x) by omega)];split
    ·by_cases c:v.y<a.y
     · rw [AZ AB,AZ AB];rfl
     · rw [AX AB,AX AB];rfl
    · rfl
  ·have hy:a.y<b.y:=by omega
   rw [AX (show ¬ (b.y<=v.y/\v.y<a.y/\0 < -t) by omega)];by_cases c1:a.y=v.y
   ·have e:=s1 c1;rw [AX (show ¬ (b.y=v.y/\v.x<b.x) by omega)];by_cases c2:v.x<a.x
    ·have:=p1 (show 0<b.y-a.y by omega) (show 0<a.x-v.x by omega)
     rw [AZ (show a.y<=v.y/\v.y<b.y/\0<t by omega),AZ (show 0<t by omega),AZ AB,AZ AB,AZ ⟨c1,c2⟩];rfl
    ·have:=p2 (show 0<b.y-a.y by omega) (show a.x-v.x<0 by omega)
     rw [AX (show ¬ (a.y<=v.y/\v.y<b.y/\0<t) by omega),AX (show ¬ 0<t by omega),AX AB];rfl
   ·rw [AX (show ¬ (a.y=v.y/\v.x<a.x) by omega)];by_cases c2:b.y=v.y
    ·have e:=s2 c2;rw [AX (show ¬ (a.y<=v.y/\v.y<b.y/\0<t) by omega)];by_cases c3:v.x<b.x
     ·have:=p1 (show 0<b.y-a.y by omega) (show 0<b.x-v.x by omega)
      rw [AZ (show 0<t by omega),AZ AB,AX AB,AZ ⟨c2,c3⟩];rfl
     ·have:=p2 (show 0<b.y-a.y by omega) (show b.x-v.x<0 by omega)
      rw [AX (show ¬ 0<t by omega),AX AB];rfl
    ·rw [AX (show ¬ (b.y=v.y/\v.x<b.x) by omega)];by_cases c3:0<t
     ·rw [AZ c3];by_cases c4:a.y<v.y/\v.y<b.y
      · rw [AZ AB,AZ AB,AX AB];rfl
      ·rw [AX AB];by_cases c5:v.y<a.y
       · rw [AZ AB,AZ AB];rfl
       · rw [AX AB,AX AB];rfl
     · rw [AX AB,AX c3];rfl
 rcases Ik (hY a) (hY b) with c | c | c
 · exact key na nb c hd hav hbv hoff
 · exact absurd (MS na nb c) hne
 ·have aqk:¬ J5 b a v:=fun e=>hoff (by
   obtain ⟨e1,e2⟩:=e;refine ⟨?_,by rw [rZ,ru a.x,rZ a.y,ru a.y];exact e2⟩
   have:tw b a v=-tw a b v:=by unfold tw;grind
   omega)
  have e:=key nb na c (by rw [show hY a-hY b=-(hY b-hY a) by omega];exact sN.2 hd) hbv hav aqk;have e1:TB v b a=-TB v a b:=by
   unfold TB;by_cases c1:b.y<=v.y/\v.y<a.y/\0<tw b a v
   · rw [AZ c1,AX AB,AZ c1];rfl
   ·by_cases c2:a.y<=v.y/\v.y<b.y/\0<tw a b v
    · rw [AX c1,AZ c2,AZ c2]
    · rw [AX c1,AX c2,AX c2,AX c1];rfl
  have e2:Em (2*hY v) b a=-Em (2*hY v) a b:=by unfold Em;omega
  rw [e1,aI,e2] at e;split at e<;>rename_i c<;>first | rw [AZ c];omega | rw [AX c];omega
section
variable {p:Pl} (h:Valid p)
include h
theorem Valid.aCg:∃ D:Int,0<D/\∀ a∈p.AP,∀ k,k+1<(AV p a).length->hY ((AV p a).getD (k+1) AY)-hY ((AV p a).getD k AY)∣D:=by
 obtain ⟨D,h1,h2⟩:=ad4 (p.AP.flatMap fun a=>(List.range ((AV p a).length-1)).map fun k=>hY ((AV p a).getD (k+1) AY)-hY ((AV p a).getD k AY)) (fun x hx=>by
  obtain ⟨a,ha,hx⟩:=Gf.1 hx;obtain ⟨k,hk,rfl⟩:=ED.1 hx;have hk:=Et.1 hk;intro e;exact (h.distinct ha (k:=k) AB).1 (MS (h.Dj ha AB) (h.Dj ha AB) AB))
 exact ⟨D,h1,fun a ha k hk=>h2 _ (Gf.2 ⟨a,ha,ED.2 ⟨k,Et.2 AB,rfl⟩⟩)⟩
theorem Valid.aJ {z:Int->Int} {v:Pt} (hoff:Ur p z v) {a:Ar} (ha:a∈p.AP) (hza:z a.id≠0) {k:Nat} (hk:k<(AV p a).length):(AV p a).getD k AY≠v:=by
 have hl:=Ey p a;intro e;by_cases h1:k+1<(AV p a).length
 ·refine hoff a ha hza k h1 ?_;rw [e];exact ⟨YR _ _,AB⟩
 ·obtain ⟨m,rfl⟩:∃ m,k=m+1:=⟨k-1,AB⟩;refine hoff a ha hza m AB ?_;rw [e];exact ⟨YS _ _,AB⟩
theorem Valid.aql {z:Int->Int} {v:Pt} (nv:C9 v=true) (hoff:Ur p z v):TV p z (2*hY v):=fun a ha hza k hk e =>
 h.aJ hoff ha hza hk (MS (h.Dj ha hk) nv AB)
theorem Valid.aj6 {z:Int->Int} (hz:Fz p z) {D:Int} (hD:0<D) (hd:∀ a∈p.AP,∀ k,k+1<(AV p a).length->hY ((AV p a).getD (k+1) AY)-hY ((AV p a).getD k AY)∣D)
  {v:Pt} (nv:C9 v=true) (hoff:Ur p z v):QV p z v=Lj (NQ p z D (2*hY v)) (2*D*v.x):=by
 have t:=h.oD hz (fun u=>-(if u.y=v.y/\v.x<u.x then 1 else 0));have bS:Lj (NQ p z D (2*hY v)) (2*D*v.x)=Dn p z (fun a b=>if 2*D*v.x<xE D a b (2*hY v) then Em (2*hY v) a b else 0) :=
  oI p z D (2*hY v) (fun x s=>if 2*D*v.x<x then s else 0) (fun x c s=>by split<;>simp)
 rw [bS];have e:QV p z v=Dn p z (fun a b=>(if 2*D*v.x<xE D a b (2*hY v) then Em (2*hY v) a b else 0)+(-(if b.y=v.y/\v.x<b.x then 1 else 0) - -(if a.y=v.y/\v.x<a.x then 1 else 0))):=by
  refine aBB fun a ha hza k hk=>?_;have:=aqj hD (h.Dj ha (k:=k) AB) (h.Dj ha hk) nv (h.distinct ha hk).1 (hd a ha k hk) (h.aJ hoff ha hza (k:=k) AB) (h.aJ hoff ha hza hk) (hoff a ha hza k hk)
  omega
 rw [e,jE p z (fun a b=>if 2*D*v.x<xE D a b (2*hY v) then Em (2*hY v) a b else 0) (fun a b=>-(if b.y=v.y/\v.x<b.x then 1 else 0) - -(if a.y=v.y/\v.x<a.x then 1 else 0)),t,iC]
theorem Valid.aj7 {z:Int->Int} (hz:Fz p z) (hw:∀ a∈p.AP,z a.id≠0->(Hz p z (-a.id)=0/\Hz p z a.id=1)\/(Hz p z (-a.id)=1/\Hz p z a.id=0))
  {D:Int} (hD:0<D) (hd:∀ a∈p.AP,∀ k,k+1<(AV p a).length->hY ((AV p a).getD (k+1) AY)-hY ((AV p a).getD k AY)∣D) {τ:Int} (hτ:TV p z τ) (t:Int) :
  Lj (NQ p z D τ) t=0\/Lj (NQ p z D τ) t=1:=by
 obtain ⟨B,hB⟩:=ad2 (NQ p z D τ);exact ad1 (h.aj2 hz hw hD hd hτ) (B+t.natAbs) t (fun v hv _=>by have:=hB v hv;omega)
theorem Valid.aj8 {z:Int->Int} (hz:Fz p z) (hw:∀ a∈p.AP,z a.id≠0->(Hz p z (-a.id)=0/\Hz p z a.id=1)\/(Hz p z (-a.id)=1/\Hz p z a.id=0))
  {v:Pt} (nv:C9 v=true) (hoff:Ur p z v):QV p z v=0\/QV p z v=1:=by
 obtain ⟨D,hD,hd⟩:=h.aCg;rw [h.aj6 hz hD hd nv hoff];exact h.aj7 hz hw hD hd (h.aql nv hoff) _
theorem Valid.aqm {z:Int->Int} (hz:Fz p z) (hw:∀ a∈p.AP,z a.id≠0->(Hz p z (-a.id)=0/\Hz p z a.id=1)\/(Hz p z (-a.id)=1/\Hz p z a.id=0))
  {e:Int} (he:e∈Bh p):Hz p z e=0\/Hz p z e=1:=by
 obtain ⟨a,ha,hor⟩:=Iq.1 he;by_cases h0:z a.id=0
 ·obtain ⟨D,hD,hd⟩:=h.aCg;have hl:=Ey p a;have hp:=h.Xo hz ha;have hk:0+1<(AV p a).length:=by omega
  have hne:hY ((AV p a).getD 0 AY)≠hY ((AV p a).getD (0+1) AY):=fun e=>(h.distinct ha hk).1 (MS (h.Dj ha AB) (h.Dj ha hk) e);have b:=(h.ad5 hz hD hd (TV.odd z (τ:=2*min (hY ((AV p a).getD 0 AY)) (hY ((AV p a).getD (0+1) AY))+1) AB) ha hk AB).1;have c:=h.aj7 hz hw hD hd (TV.odd z (τ:=2*min (hY ((AV p a).getD 0 AY)) (hY ((AV p a).getD (0+1) AY))+1) AB) (xE D ((AV p a).getD 0 AY) ((AV p a).getD (0+1) AY) (2*min (hY ((AV p a).getD 0 AY)) (hY ((AV p a).getD (0+1) AY))+1));rw [b] at c;rcases hor with rfl | rfl<;>split at c<;>omega
 ·have:=hw a ha h0
  rcases hor with rfl | rfl<;>omega
theorem Valid.Z8 {X:List Int} (hX:X∈Ce p) (hp:0<FB p X) {r d:Int} (hr:r∈X) (hd:d∈Bh p) (hs:Cb p p.AP.length d=Cb p p.AP.length r):Hz p (CZ X) d=if d∈X then 1 else 0:=by
 have h2:=(h.Gq hX).2;obtain ⟨d0,g1,g2,g3⟩:=h.aqf (h2 r hr);have hz:=h.Vs hX;have hn:=(h.aqh hX hr g1 g2 g3).1 hp;have yC:∀ a∈p.AP,CZ X a.id≠0->Cb p p.AP.length a.id=Cb p p.AP.length r:=by
  intro a ha hne;have hma:a.id∈Bh p:=Iq.2 ⟨a,ha,.inl rfl⟩;by_cases c1:a.id∈X
  · exact h.Xq hX c1 hr
  ·by_cases c2:-a.id∈X
   · rw [<- h.Vr hma];exact h.Xq hX c2 hr
   · exact absurd aAT hne
 have h0:=g3 _ hz yC;have:=h.adA hX hd g1 (by rw [hs,g2])
 rw [h0,AX hn] at this;omega
theorem Valid.jH {X:List Int} (hX:X∈Ce p) {r:Int} (hr:r∈X) {a:Ar} (ha:a∈p.AP) (hne:CZ X a.id≠0):Cb p p.AP.length a.id=Cb p p.AP.length r/\Cb p p.AP.length (-a.id)=Cb p p.AP.length r:=by
 have hma:a.id∈Bh p:=Iq.2 ⟨a,ha,.inl rfl⟩;have e:=h.Vr hma;by_cases c1:a.id∈X
 ·have:=h.Xq hX c1 hr
  exact ⟨this,by rw [e];exact this⟩
 ·by_cases c2:-a.id∈X
  ·have:=h.Xq hX c2 hr
   exact ⟨by rw [<- e];exact this,this⟩
  · exact absurd aAT hne
theorem Valid.aj9 {X:List Int} (hX:X∈Ce p) (hp:0<FB p X):∀ a∈p.AP,CZ X a.id≠0->(Hz p (CZ X) (-a.id)=0/\Hz p (CZ X) a.id=1)\/(Hz p (CZ X) (-a.id)=1/\Hz p (CZ X) a.id=0):=by
 intro a ha hne;obtain ⟨r,-,-,-,hr⟩:=h.Ph hX;have hma:a.id∈Bh p:=Iq.2 ⟨a,ha,.inl rfl⟩;obtain ⟨s1,s2⟩:=h.jH hX hr ha hne;rw [h.Z8 hX hp hr hma s1,h.Z8 hX hp hr (Wu hma) s2];unfold CZ at hne;by_cases c1:a.id∈X<;>by_cases c2:-a.id∈X<;>simp [c1,c2] at hne ⊢
theorem Valid.acT {X:List Int} (hX:X∈Ce p) (hp:0<FB p X) {r e:Int} (hr:r∈X) (he:e∈Bh p) (hs:Cb p p.AP.length e≠Cb p p.AP.length r) :
  (Hz p (CZ X) e=0\/Hz p (CZ X) e=1)/\∀ d∈Bh p,Cb p p.AP.length d=Cb p p.AP.length e->Hz p (CZ X) d=Hz p (CZ X) e:=by
 refine ⟨h.aqm (h.Vs hX) (h.aj9 hX hp) he,fun d hd hde=>?_⟩;have:=h.adA hX hd he hde
 have n1:e∉X:=fun c=>hs (h.Xq hX c hr);have n2:d∉X:=fun c=>hs (by rw [<- hde];exact h.Xq hX c hr);rw [AX n1,AX n2] at this;omega
theorem Valid.aK (z u:Int->Int) (d:Int):Hz p (fun i=>z i+u i) d=Hz p z d+Hz p u d:=aCf p z u _
theorem Valid.acU (z:Int->Int) (d:Int):Hz p (fun i=>-z i) d=-Hz p z d:=aCd p z _
theorem Valid.ajA {z:Int->Int} (h0:∀ a∈p.AP,z a.id=0) (d:Int):Hz p z d=0:=yB fun a ha=>.inl (h0 a ha)
theorem Valid.aqn {z:Int->Int} (hz:Fz p z) (hne:∃ a∈p.AP,z a.id≠0):∃ a∈p.AP,z a.id≠0/\(Hz p z a.id=0\/Hz p z (-a.id)=0):=by
 obtain ⟨a,ha,hza⟩:=hne;obtain ⟨D,hD,hd⟩:=h.aCg;have hl:=Ey p a;have hk:0+1<(AV p a).length:=by omega
 have hnq:hY ((AV p a).getD 0 AY)≠hY ((AV p a).getD (0+1) AY):=fun e=>(h.distinct ha hk).1 (MS (h.Dj ha AB) (h.Dj ha hk) e);obtain ⟨τ,hτ⟩:=BR (2*min (hY ((AV p a).getD 0 AY)) (hY ((AV p a).getD (0+1) AY))+1);have hfr:TV p z τ:=TV.odd z AB;have hs0:Em τ ((AV p a).getD 0 AY) ((AV p a).getD (0+1) AY)≠0:=by
  unfold Em;by_cases c:hY ((AV p a).getD 0 AY)<hY ((AV p a).getD (0+1) AY)
  · rw [AZ AB,AX AB];omega
  · rw [AX AB,AZ AB];omega
 have hmem:(xE D ((AV p a).getD 0 AY) ((AV p a).getD (0+1) AY) τ,z a.id*Em τ ((AV p a).getD 0 AY) ((AV p a).getD (0+1) AY))∈NQ p z D τ :=
  Gf.2 ⟨a,ha,ED.2 ⟨0,Et.2 AB,rfl⟩⟩
 obtain ⟨u,hu,hmax⟩:=ad7 (fun u:Int×Int=>u.1) ((NQ p z D τ).filter (fun u=>decide (u.2≠0))) (by
  intro e;have:(xE D ((AV p a).getD 0 AY) ((AV p a).getD (0+1) AY) τ,z a.id*Em τ ((AV p a).getD 0 AY) ((AV p a).getD (0+1) AY))∈(NQ p z D τ).filter (fun u=>decide (u.2≠0)) :=
   QE.2 ⟨hmem,by
    rw [EO];intro e;rcases XM.1 e with e | e
    · exact hza e
    · exact hs0 e⟩
  rw [e] at this
  cases this)
 rw [QE,EO] at hu;obtain ⟨hu,hu0⟩:=hu;have hb0:Lj (NQ p z D τ) u.1=0:=by
  refine Wv _ _ fun v hv=>?_;by_cases c:v.2=0
  · rw [c];split<;>rfl
  ·have:=hmax v (QE.2 ⟨hv,by rw [EO];exact c⟩)
   rw [AX AB]
 obtain ⟨c,hc,hu⟩:=Gf.1 hu;obtain ⟨k,hk2,rfl⟩:=ED.1 hu;have hk2:=Et.1 hk2;simp only at hu0 hb0;have hz0:z c.id≠0:=fun e=>hu0 (by rw [e,Jf]);have hs1:Em τ ((AV p c).getD k AY) ((AV p c).getD (k+1) AY)≠0:=fun e=>hu0 (by rw [e,KQ]);have hsp:=aBC (hfr c hc hz0 k AB) (hfr c hc hz0 (k+1) AB) hs1;have b:=(h.ad5 hz hD hd hfr hc (k:=k) AB (by
  rcases hsp with ⟨g1,g2,-⟩ | ⟨g1,g2,-⟩
  · exact .inl ⟨g1,g2⟩
  · exact .inr ⟨g1,g2⟩)).1
 rw [hb0] at b;refine ⟨c,hc,hz0,?_⟩;split at b
 · exact .inr b.symm
 · exact .inl b.symm
theorem Valid.aqo {X Y:List Int} (hX:X∈Ce p) (Pj:Y∈Ce p) (jI:0<FB p X) (jJ:0<FB p Y) (hXY:X≠Y) {v:Pt} (nv:C9 v=true)
  (oX:Ur p (CZ X) v) (oY:Ur p (CZ Y) v) (wX:QV p (CZ X) v=1) (wY:QV p (CZ Y) v=1):FB p X≠FB p Y:=by
 obtain ⟨x,hxd,-,-,hx⟩:=h.Ph hX;obtain ⟨y,hyd,-,-,hy⟩:=h.Ph Pj;have zX:=h.Vs hX;have zY:=h.Vs Pj;have both:∀ d,¬ (d∈X/\d∈Y):=fun d hd=>hXY (h.aB8 hX Pj hd.1 hd.2);have dm:∀ a∈p.AP,a.id∈Bh p/\-a.id∈Bh p:=fun a ha=>⟨Iq.2 ⟨a,ha,.inl rfl⟩,Iq.2 ⟨a,ha,.inr rfl⟩⟩;have sup:∀ a∈p.AP,CZ X a.id+CZ Y a.id≠0->(Cb p p.AP.length a.id=Cb p p.AP.length x/\Cb p p.AP.length (-a.id)=Cb p p.AP.length x)\/(Cb p p.AP.length a.id=Cb p p.AP.length y/\Cb p p.AP.length (-a.id)=Cb p p.AP.length y):=by
  intro a ha hne;by_cases c:CZ X a.id=0
  · exact .inr (h.jH Pj hy ha AB)
  · exact .inl (h.jH hX hx ha c)
 have ajB:Ur p (fun i=>CZ X i+CZ Y i) v:=fun a ha hne k hk=>by
  have hne:CZ X a.id+CZ Y a.id≠0:=hne;by_cases c:CZ X a.id=0
  · exact oY a ha AB k hk
  · exact oX a ha c k hk
 have wS:QV p (fun i=>CZ X i+CZ Y i) v=2:=by unfold QV at *;rw [aCf,wX,wY];rfl
 have ajC:¬ ∀ a∈p.AP,CZ X a.id+CZ Y a.id≠0->(Hz p (CZ X) (-a.id)+Hz p (CZ Y) (-a.id)=0/\Hz p (CZ X) a.id+Hz p (CZ Y) a.id=1)\/(Hz p (CZ X) (-a.id)+Hz p (CZ Y) (-a.id)=1/\Hz p (CZ X) a.id+Hz p (CZ Y) a.id=0):=by
  intro hw;have:=h.aj8 (zX.add zY) (fun a ha hne=>by rw [h.aK,h.aK];exact hw a ha hne) nv ajB
  omega
 have jump:∀ a∈p.AP,Hz p (CZ X) a.id-Hz p (CZ X) (-a.id)=CZ X a.id/\Hz p (CZ Y) a.id-Hz p (CZ Y) (-a.id)=CZ Y a.id:=fun a ha=>⟨h.Xo zX ha,h.Xo zY ha⟩;by_cases hc:Cb p p.AP.length x=Cb p p.AP.length y
 ·exfalso;refine ajC fun a ha hne=>?_;have hs:Cb p p.AP.length a.id=Cb p p.AP.length x/\Cb p p.AP.length (-a.id)=Cb p p.AP.length x:=by
   rcases sup a ha hne with g | g
   · exact g
   · rw [hc];exact g
  have j:=jump a ha;have a1:=h.Z8 hX jI hx (dm a ha).1 hs.1;have a2:=h.Z8 hX jI hx (dm a ha).2 hs.2;have a3:=h.Z8 Pj jJ hy (dm a ha).1 (hs.1.trans hc);have a4:=h.Z8 Pj jJ hy (dm a ha).2 (hs.2.trans hc);have b1:=both a.id;have b2:=both (-a.id);have t1:Hz p (CZ X) a.id+Hz p (CZ Y) a.id=0\/Hz p (CZ X) a.id+Hz p (CZ Y) a.id=1:=by
   rw [a1,a3];by_cases c1:a.id∈X<;>by_cases c2:a.id∈Y<;>simp only [c1,c2,if_true,if_false] at b1 ⊢ <;> simp at b1 ⊢
  have t2:Hz p (CZ X) (-a.id)+Hz p (CZ Y) (-a.id)=0\/Hz p (CZ X) (-a.id)+Hz p (CZ Y) (-a.id)=1:=by
   rw [a2,a4];by_cases c1:-a.id∈X<;>by_cases c2:-a.id∈Y<;>simp only [c1,c2,if_true,if_false] at b2 ⊢ <;> simp at b2 ⊢
  omega
 ·obtain ⟨α01,αc⟩:=h.acT hX jI hx hyd (fun e=>hc e.symm);obtain ⟨β01,βc⟩:=h.acT Pj jJ hy hxd hc;have Xr:∀ d∈Bh p,Cb p p.AP.length d=Cb p p.AP.length x->Hz p (CZ X) d=(if d∈X then 1 else 0)/\Hz p (CZ Y) d=Hz p (CZ Y) x:=fun d hd hs=>⟨h.Z8 hX jI hx hd hs,βc d hd hs⟩;have Z9:∀ d∈Bh p,Cb p p.AP.length d=Cb p p.AP.length y->Hz p (CZ Y) d=(if d∈Y then 1 else 0)/\Hz p (CZ X) d=Hz p (CZ X) y:=fun d hd hs=>⟨h.Z8 Pj jJ hy hd hs,αc d hd hs⟩;generalize Hz p (CZ X) y=α at *;generalize Hz p (CZ Y) x=β at *;have QW:∀ (P:Prop) [Decidable P],(if P then (1:Int) else 0)=0\/(if P then (1:Int) else 0)=1:=fun P _=>by split<;>simp
  have diff:∀ {X Y:List Int} {x:Int},X∈Ce p->Y∈Ce p->Fz p (CZ X)->Fz p (CZ Y)->x∈X->x∈Bh p ->
    (∀ a∈p.AP,CZ X a.id + -CZ Y a.id≠0->(Hz p (CZ X) (-a.id)-Hz p (CZ Y) (-a.id)=0\/Hz p (CZ X) (-a.id)-Hz p (CZ Y) (-a.id)=1)/\(Hz p (CZ X) a.id-Hz p (CZ Y) a.id=0\/Hz p (CZ X) a.id-Hz p (CZ Y) a.id=1)) ->
    Hz p (CZ X) x-Hz p (CZ Y) x=1->FB p Y<FB p X:=by
   intro X Y x hX Pj zX zY hx hxd hw h1;have hp:=(h.ad6 (zX.add zY.neg) (fun a ha hne=>by
    have j1:=h.Xo zX ha;have j2:=h.Xo zY ha;have hw:=hw a ha hne;have hne:CZ X a.id + -CZ Y a.id≠0:=hne;rw [h.aK,h.aK,h.acU,h.acU];omega)).2 (NV fun hno=>by
     have:=h.ajA (z:=fun i=>CZ X i + -CZ Y i) (fun a ha=>NV fun e=>hno ⟨a,ha,e⟩) x
     rw [h.aK,h.acU] at this;omega)
   rw [aCf,aCd,<- h.ad9 hX,<- h.ad9 Pj] at hp;omega
  have ayw:∀ {z:Int},True->True:=fun h=>h;rcases α01 with α0 | α1<;>rcases β01 with β0 | β1
  ·exfalso;refine ajC fun a ha hne=>?_;have j:=jump a ha;rcases sup a ha hne with g | g
   ·obtain ⟨e1,e2⟩:=Xr _ (dm a ha).1 g.1;obtain ⟨e3,e4⟩:=Xr _ (dm a ha).2 g.2;have i1:=QW (a.id∈X);have i2:=QW (-a.id∈X);omega
   ·obtain ⟨e1,e2⟩:=Z9 _ (dm a ha).1 g.1;obtain ⟨e3,e4⟩:=Z9 _ (dm a ha).2 g.2;have i1:=QW (a.id∈Y);have i2:=QW (-a.id∈Y);omega
  ·have:=diff Pj hX zY zX hy hyd (fun a ha hne=>by
    have hs:(Cb p p.AP.length a.id=Cb p p.AP.length x/\Cb p p.AP.length (-a.id)=Cb p p.AP.length x)\/(Cb p p.AP.length a.id=Cb p p.AP.length y/\Cb p p.AP.length (-a.id)=Cb p p.AP.length y):=by
     by_cases c:CZ X a.id=0
     · exact .inr (h.jH Pj hy ha AB)
     · exact .inl (h.jH hX hx ha c)
    rcases hs with g | g
    ·obtain ⟨e1,e2⟩:=Xr _ (dm a ha).1 g.1;obtain ⟨e3,e4⟩:=Xr _ (dm a ha).2 g.2;have i1:=QW (a.id∈X);have i2:=QW (-a.id∈X);omega
    ·obtain ⟨e1,e2⟩:=Z9 _ (dm a ha).1 g.1;obtain ⟨e3,e4⟩:=Z9 _ (dm a ha).2 g.2;have i1:=QW (a.id∈Y);have i2:=QW (-a.id∈Y);omega) (by
    obtain ⟨e1,e2⟩:=Z9 y hyd rfl;rw [e1,e2,AZ hy];omega)
   omega
  ·have:=diff hX Pj zX zY hx hxd (fun a ha hne=>by
    have hs:(Cb p p.AP.length a.id=Cb p p.AP.length x/\Cb p p.AP.length (-a.id)=Cb p p.AP.length x)\/(Cb p p.AP.length a.id=Cb p p.AP.length y/\Cb p p.AP.length (-a.id)=Cb p p.AP.length y):=by
     by_cases c:CZ X a.id=0
     · exact .inr (h.jH Pj hy ha AB)
     · exact .inl (h.jH hX hx ha c)
    rcases hs with g | g
    ·obtain ⟨e1,e2⟩:=Xr _ (dm a ha).1 g.1;obtain ⟨e3,e4⟩:=Xr _ (dm a ha).2 g.2;have i1:=QW (a.id∈X);have i2:=QW (-a.id∈X);omega
    ·obtain ⟨e1,e2⟩:=Z9 _ (dm a ha).1 g.1;obtain ⟨e3,e4⟩:=Z9 _ (dm a ha).2 g.2;have i1:=QW (a.id∈Y);have i2:=QW (-a.id∈Y);omega) (by
    obtain ⟨e1,e2⟩:=Xr x hxd rfl;rw [e1,e2,AZ hx];omega)
   omega
  ·exfalso;obtain ⟨a,ha,hne,hor⟩:=h.aqn (zX.add zY) (NV fun hno=>by
    have:=h.ajA (z:=fun i=>CZ X i+CZ Y i) (fun a ha=>NV fun e=>hno ⟨a,ha,e⟩) x
    rw [h.aK] at this;obtain ⟨e1,e2⟩:=Xr x hxd rfl;rw [e1,e2,AZ hx] at this;omega)
   rw [h.aK,h.aK] at hor;rcases sup a ha hne with g | g
   ·obtain ⟨e1,e2⟩:=Xr _ (dm a ha).1 g.1;obtain ⟨e3,e4⟩:=Xr _ (dm a ha).2 g.2;have i1:=QW (a.id∈X);have i2:=QW (-a.id∈X);omega
   ·obtain ⟨e1,e2⟩:=Z9 _ (dm a ha).1 g.1;obtain ⟨e3,e4⟩:=Z9 _ (dm a ha).2 g.2;have i1:=QW (a.id∈Y);have i2:=QW (-a.id∈Y);omega
end
def G5 (p:Pl) (d:Int):List Pt:=match findAr p.AP (Ez d) with
 | some a=>AV p a
 | none=>[]
def Es (P:List Pt):List (Pt×Pt):=(List.range (P.length-1)).map fun k=>(P.getD k AY,P.getD (k+1) AY)
def DV (p:Pl) (X:List Int):List (Pt×Pt):=X.flatMap fun d=>Es (G5 p d)
def J6 (v a b:Pt):Bool:=decide ((a.y<=v.y/\v.y<b.y/\0<tw a b v)\/(b.y<=v.y/\v.y<a.y/\tw a b v<0))
def QX (v:Pt) (s:Bool×Bool) (q:Pt×Pt):Bool×Bool:=if Ea q.1 q.2 v then (true,s.2) else if J6 v q.1 q.2 then (s.1,!s.2) else s
def TG (v:Pt) (l:List (Pt×Pt)):Bool×Bool:=l.foldl (QX v) (false,false)
def encS (p:Pl) (X:List Int) (v:Pt):Bool:=(TG v (DV p X)).2 && !(TG v (DV p X)).1
theorem ajD (v a b:Pt):J6 v a b=decide (TB v a b≠0):=by
 have t:tw b a v=-tw a b v:=by unfold tw;grind
 unfold J6 TB;rw [t];by_cases c1:a.y<=v.y/\v.y<b.y/\0<tw a b v
 · rw [AZ c1,JO (.inl c1)];rfl
 ·rw [AX c1];by_cases c2:b.y<=v.y/\v.y<a.y/\tw a b v<0
  · rw [AZ ⟨c2.1,c2.2.1,AB⟩,JO (.inr c2)];rfl
  · rw [AX AB,Gg (by rintro (h | h);exact c1 h;exact c2 h)];rfl
theorem ajE (v:Pt):∀ (l:List (Pt×Pt)) (s:Bool×Bool),(l.foldl (QX v) s).1=(s.1 || l.any fun q=>Ea q.1 q.2 v)
 | [],s=>by simp
 | q::l,s=>by
  rw [UD,ajE v l,aAM];unfold QX;by_cases h:Ea q.1 q.2 v=true
  · rw [AZ h,h];simp
  ·rw [AX h];split<;>simp [h]
theorem ajF (v:Pt):∀ (l:List (Pt×Pt)) (s:Bool×Bool),(l.any fun q=>Ea q.1 q.2 v)=false ->
  (l.foldl (QX v) s).2=(s.2 != decide ((l.map fun q=>if J6 v q.1 q.2 then (1:Int) else 0).sum % 2=1))
 | [],s,_=>by simp
 | q::l,s,h=>by
  rw [aAM,QC] at h;rw [UD,ajF v l _ h.2,FM,IJ];unfold QX;rw [AX (by rw [h.1];decide)];generalize (l.map fun q=>if J6 v q.1 q.2 then (1:Int) else 0).sum=n
  cases hp:J6 v q.1 q.2
  · rw [AX Aw,AX Aw,Int.zero_add]
  ·rw [AZ rfl,AZ rfl];by_cases hn:n % 2=1
   · rw [JO hn,Gg AB];cases s.2<;>rfl
   · rw [Gg hn,JO AB];cases s.2<;>rfl
theorem aCh (v:Pt) (l:List (Pt×Pt)):((TG v l).2 && !(TG v l).1)=(!(l.any fun q=>Ea q.1 q.2 v) && decide ((l.map fun q=>if J6 v q.1 q.2 then (1:Int) else 0).sum % 2=1)):=by
 unfold TG;rw [ajE]
 cases h:l.any fun q=>Ea q.1 q.2 v
 · rw [ajF v l _ h];simp
 · simp
theorem aCi {α:Type} (l:List α) (f g:α->Int) (h:∀ x∈l,f x % 2=g x % 2):(l.map f).sum % 2=(l.map g).sum % 2:=by
 induction l with
 | nil=>rfl
 | cons a l ih =>
  rw [FM,IJ,FM,IJ];have h1:=h a Eu;have h2:=ih fun x hx=>h x (I7 _ hx);omega
theorem oJ {a b v:Pt} (na:C9 a=true) (nb:C9 b=true) (nv:C9 v=true):Ea a b v=true↔J5 a b v:=by
 unfold Ea J5
 have:EN [a,b,v]=true:=by simp [EN,na,nb,nv]
 rw [this];simp [and_assoc]
section
variable {p:Pl} (h:Valid p)
include h
theorem Valid.TY {d:Int} (hd:d∈Bh p):∃ a∈p.AP,(d=a.id\/d=-a.id)/\G5 p d=AV p a:=by
 obtain ⟨a,ha,e⟩:=Iq.1 hd;have hid:=(h.Gx ha).1;refine ⟨a,ha,e,?_⟩;unfold G5
 have:Ez d=a.id:=by unfold Ez;rcases e with rfl | rfl<;>split<;>omega
 rw [this,h.find ha]
theorem Valid.aCj {X:List Int} (hX:∀ d∈X,d∈Bh p) {q:Pt×Pt} (hq:q∈DV p X):∃ a∈p.AP,(a.id∈X\/-a.id∈X)/\∃ k,k+1<(AV p a).length/\q=((AV p a).getD k AY,(AV p a).getD (k+1) AY):=by
 obtain ⟨d,hd,hq⟩:=Gf.1 hq;obtain ⟨a,ha,e,hp⟩:=h.TY (hX d hd);rw [hp] at hq;obtain ⟨k,hk,rfl⟩:=ED.1 hq;have hk:=Et.1 hk;refine ⟨a,ha,?_,k,AB,rfl⟩;rcases e with rfl | rfl
 · exact .inl hd
 · exact .inr hd
theorem Valid.acV {X:List Int} {a:Ar} (ha:a∈p.AP) (hm:a.id∈X\/-a.id∈X) {k:Nat} (hk:k+1<(AV p a).length):((AV p a).getD k AY,(AV p a).getD (k+1) AY)∈DV p X:=by
 have hid:=(h.Gx ha).1;have e:∀ d,(d=a.id\/d=-a.id)->G5 p d=AV p a:=fun d e=>by
  unfold G5
  have:Ez d=a.id:=by unfold Ez;rcases e with rfl | rfl<;>split<;>omega
  rw [this,h.find ha]
 rcases hm with hm | hm
 · exact Gf.2 ⟨_,hm,by rw [e _ (.inl rfl)];exact ED.2 ⟨k,Et.2 AB,rfl⟩⟩
 · exact Gf.2 ⟨_,hm,by rw [e _ (.inr rfl)];exact ED.2 ⟨k,Et.2 AB,rfl⟩⟩
theorem Valid.aqp {X:List Int} (hX:X∈Ce p) (v:Pt):((DV p X).map fun q=>if J6 v q.1 q.2 then (1:Int) else 0).sum % 2=QV p (CZ X) v % 2:=by
 obtain ⟨-,h2⟩:=h.Gq hX;have e1:((DV p X).map fun q=>if J6 v q.1 q.2 then (1:Int) else 0).sum=(X.map fun d=>J4 (fun a b=>if J6 v a b then (1:Int) else 0) (G5 p d)).sum:=by
  unfold DV;rw [aAL,acz];refine Hu _ _ _ fun d _=>?_;unfold Es J4;rw [IV];rfl
 rw [e1,h.aCe hX];unfold QV Dn;refine aCi _ _ _ fun a ha=>?_;have hid:=(h.Gx ha).1;have p1:G5 p a.id=AV p a:=by
  unfold G5;rw [show Ez a.id=a.id by unfold Ez;split<;>omega,h.find ha]
 have p2:G5 p (-a.id)=AV p a:=by
  unfold G5;rw [show Ez (-a.id)=a.id by unfold Ez;split<;>omega,h.find ha]
 rw [p1,p2];have e:J4 (fun a b=>if J6 v a b then (1:Int) else 0) (AV p a) % 2=J4 (TB v) (AV p a) % 2:=by
  unfold J4;refine aCi _ _ _ fun k _=>?_
  show (if J6 v ((AV p a).getD k AY) ((AV p a).getD (k+1) AY)=true then (1:Int) else 0) % 2=_
  rw [ajD];unfold TB;split
  · rfl
  · split<;>rfl
 generalize J4 (fun a b=>if J6 v a b then (1:Int) else 0) (AV p a)=s at *;generalize J4 (TB v) (AV p a)=t at *;unfold CZ;by_cases c1:a.id∈X<;>by_cases c2:-a.id∈X<;>simp only [c1,c2,if_true,if_false]<;>omega
theorem Valid.yD {X:List Int} (hX:X∈Ce p) (hp:0<FB p X) {v:Pt} (nv:C9 v=true) :
  encS p X v=true↔(∀ q∈DV p X,Ea q.1 q.2 v=false)/\QV p (CZ X) v=1:=by
 obtain ⟨-,h2⟩:=h.Gq hX;unfold encS;rw [aCh,Ei,EO,h.aqp hX,Qk,XO];constructor
 ·rintro ⟨g1,g2⟩;have g1':∀ q∈DV p X,Ea q.1 q.2 v=false:=fun q hq=>by simpa using g1 q hq
  have hoff:Ur p (CZ X) v:=fun a ha hne k hk hon=>by
   have hm:a.id∈X\/-a.id∈X:=by
    by_cases c1:a.id∈X
    · exact .inl c1
    ·by_cases c2:-a.id∈X
     · exact .inr c2
     · exact absurd aAT hne
   have:=g1' _ (h.acV ha hm hk)
   rw [(oJ (h.Dj ha AB) (h.Dj ha hk) nv).2 hon] at this
   cases this
  have:=h.aj8 (h.Vs hX) (h.aj9 hX hp) nv hoff
  exact ⟨g1',AB⟩
 ·rintro ⟨g1,g2⟩;exact ⟨fun q hq=>by rw [g1 q hq];decide,by rw [g2];rfl⟩
theorem Valid.yE {X:List Int} {v:Pt} (nv:C9 v=true) (g:∀ q∈DV p X,Ea q.1 q.2 v=false):Ur p (CZ X) v:=fun a ha hne k hk hon=>by
 have hm:a.id∈X\/-a.id∈X:=by
  by_cases c1:a.id∈X
  · exact .inl c1
  ·by_cases c2:-a.id∈X
   · exact .inr c2
   · exact absurd aAT hne
 have:=g _ (h.acV ha hm hk)
 rw [(oJ (h.Dj ha AB) (h.Dj ha hk) nv).2 hon] at this
 cases this
theorem Valid.aqr {X Y:List Int} (hX:X∈Ce p) (Pj:Y∈Ce p) (jI:0<FB p X) (jJ:0<FB p Y) {v:Pt} (nv:C9 v=true)
  (eX:encS p X v=true) (eY:encS p Y v=true) (e:FB p X=FB p Y):X=Y:=by
 obtain ⟨g1,g2⟩:=(h.yD hX jI nv).1 eX;obtain ⟨g3,g4⟩:=(h.yD Pj jJ nv).1 eY;exact NV fun hne=>h.aqo hX Pj jI jJ hne nv (h.yE nv g1) (h.yE nv g3) g2 g4 e
end
section
variable {α:Type} (E:α->Bool) (t:α->Int)
def RF (b:Option α) (x:α):Option α:=if (E x && (match b with | none=>true | some y=>decide (t x<t y)))=true then some x else b
def Jm (l:List α):Option α:=l.foldl (RF E t) none
theorem ZA (l:List α) (x:α):Jm E t (l++[x])=RF E t (Jm E t l) x:=by unfold Jm;rw [Oi];rfl
theorem acW {l:List α} {k:Nat} (hk:k<l.length):Jm E t (l.take (k+1))=RF E t (Jm E t (l.take k)) l[k]:=by
 rw [F7 hk,ZA]
theorem acX {P:List α->Prop} (h0:P []) (h1:∀ l x,P l->P (l++[x])) (l:List α):P l:=by
 have:∀ k,k<=l.length->P (l.take k):=by
  intro k
  induction k with
  | zero=>intro _;exact h0
  | succ k ih=>intro hk;rw [F7 (show k<l.length by omega)];exact h1 _ _ (ih AB)
 have:=this l.length (Dc _)
 rwa [I4] at this
theorem ajG (l:List α):match Jm E t l with
  | none=>∀ x∈l,E x=false
  | some x=>x∈l/\E x=true/\∀ y∈l,E y=true->t x<=t y:=by
 induction l using acX with
 | h0=>exact fun x hx=>by cases hx
 | h1 l x ih =>
  rw [ZA];unfold RF
  cases hb:Jm E t l with
  | none =>
   rw [hb] at ih;simp only [aan];by_cases hE:E x=true
   ·rw [AZ hE];refine ⟨Ak,hE,fun y hy jK=>?_⟩;rcases FX.1 hy with hy | hy
    · rw [ih y hy] at jK;cases jK
    · rw [EP] at hy;subst hy;exact KH _
   ·rw [AX hE];intro y hy;rcases FX.1 hy with hy | hy
    · exact ih y hy
    · rw [EP] at hy;subst hy;simpa using hE
  | some z =>
   rw [hb] at ih;simp only [Ei,EO];by_cases hE:E x=true/\t x<t z
   ·rw [AZ hE];refine ⟨Ak,hE.1,fun y hy jK=>?_⟩;rcases FX.1 hy with hy | hy
    · have:=ih.2.2 y hy jK;omega
    · rw [EP] at hy;subst hy;exact KH _
   ·rw [AX hE];refine ⟨O9 _ ih.1,ih.2.1,fun y hy jK=>?_⟩;rcases FX.1 hy with hy | hy
    · exact ih.2.2 y hy jK
    ·rw [EP] at hy;subst hy;have:¬ t y<t z:=fun h=>hE ⟨jK,h⟩
     omega
theorem acY {l:List α}:Jm E t l=none↔∀ x∈l,E x=false:=by
 have:=ajG E t l
 cases h:Jm E t l with
 | none=>rw [h] at this;exact ⟨fun _=>this,fun _=>rfl⟩
 | some x =>
  rw [h] at this;refine ⟨fun h=>(by cases h),fun h0=>?_⟩;have h1:=h0 x this.1;rw [this.2.1] at h1
  cases h1
theorem aCk {l:List α} {x:α} (h:Jm E t l=some x):x∈l/\E x=true/\∀ y∈l,E y=true->t x<=t y:=by
 have:=ajG E t l
 rw [h] at this;exact this
theorem aqs {l m:List α} (hp:l.Perm m) (hu:∀ x∈l,∀ y∈l,E x=true->E y=true->t x=t y->x=y):Jm E t l=Jm E t m:=by
 cases h1:Jm E t l with
 | none =>
  have:=(acY E t).1 h1
  exact ((acY E t).2 fun x hx=>this x (hp.symm.subset hx)).symm
 | some x =>
  obtain ⟨a1,a2,a3⟩:=aCk E t h1
  cases h2:Jm E t m with
  | none =>
   have:=(acY E t).1 h2 x (hp.subset a1)
   rw [a2] at this;cases this
  | some y =>
   obtain ⟨b1,b2,b3⟩:=aCk E t h2;have:=a3 y (hp.symm.subset b1) b2
   have:=b3 x (hp.subset a1) a2
   rw [hu x a1 y (hp.symm.subset b1) a2 b2 AB]
end
