import Derived.Test.YtialfdomhoojiaaGreatJ13
set_option linter.unusedSimpArgs false
set_option linter.unusedVariables false
namespace Go.Proofs.YtialfdomhoojiaaGreat
open Go.RowKit
set_option linter.unusedSectionVars false
def bP (X:List Int) (i:Int):Int:=(if i∈X then 1 else 0)-(if -i∈X then 1 else 0)
def iD (p:Pl) (X:List Int):Int:=(X.map (BF p)).sum
theorem ani (P:List Pt):nO rJ P=uM P:=by
 unfold nO uM;generalize P.length-1=n
 induction n with
 | zero=>rfl
 | succ n ih=>rw [List.range_succ,List.map_append,List.sum_append,ih,lU];simp
theorem Vw (p:Pl) (z:Int->Int) (f:Pt->Pt->Int):fB p (fun i=>-z i) f=-fB p z f:=by
 unfold fB;rw [<- BH];exact jF _ _ _ fun a _=>by rw [Int.neg_mul]
theorem aaJ {p:Pl} {z:Int->Int} {f:Pt->Pt->Int} (h0:∀ a∈p.aj,z a.id=0\/∀ k,k+1<(au p a).length->f ((au p a).getD k aA) ((au p a).getD (k+1) aA)=0):fB p z f=0:=by
 unfold fB nO;refine Em _ _ fun a ha=>?_;rcases h0 a ha with e | e
 · rw [e,Int.zero_mul]
 · rw [Em _ _ (fun k hk=>e k avu),Int.mul_zero]
theorem aaK {α:Type} (f:α->Int):∀ l:List α,l≠[]->∃ x∈l,∀ y∈l,f y<=f x
 | [],h=>absurd rfl h
 | [a],_=>⟨a,by simp,fun y hy=>by rw [avY] at hy;subst hy;exact Int.le_refl _⟩
 | a::b::l,_=>by
  obtain ⟨x,hx,hm⟩:=aaK f (b::l) ars;by_cases c:f a<=f x
  ·refine ⟨x,List.mem_cons_of_mem _ hx,fun y hy=>?_⟩;rcases av2.1 hy with rfl | hy
   · exact c
   · exact hm y hy
  ·refine ⟨a,av3,fun y hy=>?_⟩;rcases av2.1 hy with rfl | hy
   · exact Int.le_refl _
   · have:=hm y hy;omega
theorem anj (p:Pl) (l:List Int) (k:Nat) (hk:k<=l.length):qo p l k=((l.take k).map (BF p)).sum:=by
 induction k with
 | zero=>simp [qo]
 | succ k ih =>
  rw [qo,ih Pe,avH (show k<l.length by omega),List.map_append,List.sum_append,avT,avG (show k<l.length by omega)];simp
section
variable {p:Pl} (h:Valid p)
include h
theorem Valid.ank (F:Int->Int):((bf p).map F).sum=(p.aj.map fun a=>F a.id+F (-a.id)).sum:=by
 unfold bf;rw [List.map_append,List.sum_append,Vq ((List.reverse_perm _).map F),awc,awc,yt]
 show (p.aj.map fun a=>F (-a.id)).sum+(p.aj.map fun a=>F a.id).sum=_
 omega
theorem Valid.lV {X:List Int} (hX:X∈cO p):X.Nodup/\(∀ d∈X,d∈bf p):=by
 obtain ⟨x,hx,e,-,-⟩:=h.uN hX;have hD:∀ x∈bf p,iH p x∈bf p:=fun x hx=>(h.uK hx).1;have hf:=Dl hD (fun x hx y hy=>h.Ej hx hy) hx;rw [e];exact ⟨hf.2.2.2.2.1,fun d hd=>Qq hD hx hd⟩
theorem Valid.aaL {X:List Int} (hX:X∈cO p) {d:Int} (hd:d∈bf p):iH p d∈X↔d∈X:=by
 obtain ⟨x,hx,e,-,-⟩:=h.uN hX;rw [e];exact aaf (fun x hx=>(h.uK hx).1) (fun x hx y hy=>h.Ej hx hy) hx hd
theorem Valid.aaM {X:List Int} (hX:X∈cO p) (F:Int->Int):(X.map F).sum=(p.aj.map fun a=>(if a.id∈X then F a.id else 0)+(if -a.id∈X then F (-a.id) else 0)).sum:=by
 obtain ⟨h1,h2⟩:=h.lV hX;rw [<- h.ank (fun d=>if d∈X then F d else 0)];have hp:((bf p).filter (fun d=>decide (d∈X))).Perm X:=by
  refine (List.perm_ext_iff_of_nodup (h.Qv.filter _) h1).2 fun d=>?_;rw [av7,avQ];exact ⟨fun h=>h.2,fun h=>⟨h2 d h,h⟩⟩
 rw [<- Vq (hp.map F)];generalize bf p=D
 induction D with
 | nil=>rfl
 | cons d D ih =>
  rw [List.map_cons,List.sum_cons,List.filter_cons];by_cases c:d∈X
  · rw [if_pos (by simpa using c),if_pos c,List.map_cons,List.sum_cons,ih]
  · rw [if_neg (by simpa using c),if_neg c,ih];omega
theorem Valid.anl {X:List Int} (hX:X∈cO p):(X.map (iH p)).Perm X:=by
 obtain ⟨h1,h2⟩:=h.lV hX;have hn:(X.map (iH p)).Nodup:=by
  rw [List.nodup_iff_pairwise_ne,List.pairwise_map];rw [List.nodup_iff_pairwise_ne] at h1;refine List.Pairwise.imp_of_mem (fun {a b} ha hb hne e=>hne (h.Ej (h2 a ha) (h2 b hb) e)) h1
 refine (List.perm_ext_iff_of_nodup hn h1).2 fun y=>?_;rw [av6];constructor
 ·rintro ⟨x,hx,rfl⟩;exact (h.aaL hX (h2 x hx)).2 hx
 ·intro hy;obtain ⟨x,hx,e,-,-⟩:=h.uN hX;have hf:=Dl (fun x hx=>(h.uK hx).1) (fun x hx y hy=>h.Ej hx hy) hx;rw [e] at hy ⊢;unfold lG at hy ⊢;obtain ⟨k,hk,rfl⟩:=BA.1 hy
  cases k with
  | zero =>
   refine ⟨pw (iH p) x (nN (iH p) (bf p) x-1),BA.2 ⟨_,by omega,rfl⟩,?_⟩
   have:pw (iH p) x (nN (iH p) (bf p) x-1+1)=x:=by rw [Nat.sub_add_cancel hf.1];exact hf.2.2.1
   rw [pw] at this;exact this
  | succ k=>exact ⟨pw (iH p) x k,BA.2 ⟨k,by omega,rfl⟩,rfl⟩
theorem Valid.Ep {X:List Int} (hX:X∈cO p):jc p (bP X):=by
 intro n _;obtain ⟨h1,h2⟩:=h.lV hX;have e1:=h.aaM hX (fun d=>(if lT p (-d)=n.id then 1 else 0)-(if lT p d=n.id then 1 else 0));have e2:(X.map fun d=>((if lT p (-d)=n.id then 1 else 0)-(if lT p d=n.id then 1 else 0):Int)).sum=0:=by
  have e3:=Vq ((h.anl hX).map fun d=>if lT p d=n.id then (1:Int) else 0);rw [awc] at e3;rw [jF _ _ (fun d=>(if lT p (iH p d)=n.id then (1:Int) else 0) + -(if lT p d=n.id then 1 else 0)) (fun d hd=>by rw [(h.uK (h2 d hd)).2];omega),yt,BH];have e4:(X.map fun d=>if lT p (iH p d)=n.id then (1:Int) else 0).sum=(X.map ((fun d=>if lT p d=n.id then (1:Int) else 0) ∘ iH p)).sum:=rfl;omega
 rw [e2] at e1;refine Eq.trans ?_ e1.symm;refine jF _ _ _ fun a ha=>?_;simp only [Int.neg_neg];rw [h.Vb ha,h.Qs ha];unfold bP;generalize (if a.dst=n.id then (1:Int) else 0)=u;generalize (if a.fr=n.id then (1:Int) else 0)=v;by_cases c1:a.id∈X<;>by_cases c2:-a.id∈X<;>simp only [c1,c2,if_true,if_false]<;>omega
theorem Valid.anm {a:Ar} (ha:a∈p.aj):BF p a.id=uM (au p a)/\BF p (-a.id)=-uM (au p a):=by
 have hid:=(h.kC ha).1;unfold BF;rw [h.NW ha,h.Qr ha];simp only;rw [if_pos Pe,if_neg Pe];exact ⟨rfl,rfl⟩
theorem Valid.aaN {X:List Int} (hX:X∈cO p):iD p X=fB p (bP X) rJ:=by
 unfold iD fB;rw [h.aaM hX];refine jF _ _ _ fun a ha=>?_;obtain ⟨e1,e2⟩:=h.anm ha;rw [ani,e1,e2];unfold bP;by_cases c1:a.id∈X<;>by_cases c2:-a.id∈X<;>simp only [c1,c2,if_true,if_false]<;>omega
theorem Valid.aaO {X:List Int} (hX:X∈cO p) {d e:Int} (hd:d∈bf p) (he:e∈bf p) (hs:bM p p.aj.length d=bM p p.aj.length e) :
  Hz p (bP X) d-(if d∈X then 1 else 0)=Hz p (bP X) e-(if e∈X then 1 else 0):=by
 have hz:=h.Ep hX;have hc:=h.amU (fun d=>Hz p (bP X) d-(if d∈X then 1 else 0)) (fun d hd=>by
  show Hz p (bP X) (iH p d)-(if iH p d∈X then 1 else 0)=_
  rw [h.amO hz hd];by_cases c:d∈X
  · rw [if_pos c,if_pos ((h.aaL hX hd).2 c)]
  · rw [if_neg c,if_neg (fun e=>c ((h.aaL hX hd).1 e))]) p.aj.length (awe _) (fun j hj _ _=>by
  have:=h.En hz (avF hj)
  unfold bP at this ⊢
  show Hz p _ p.aj[j].id-_=Hz p _ (-p.aj[j].id)-_
  omega)
 have h1:_=_:=hc d hd;have h2:_=_:=hc e he;rw [<- h1,<- h2,hs]
theorem Valid.ano {r:Int} (hr:r∈bf p):∃ d∈bf p,bM p p.aj.length d=bM p p.aj.length r /\
  ∀ z,jc p z->(∀ a∈p.aj,z a.id≠0->bM p p.aj.length a.id=bM p p.aj.length r)->Hz p z d=0:=by
 obtain ⟨q,hq,hmax⟩:=aaK (fun q:Ar×Nat=>hY ((au p q.1).getD q.2 aA)) (p.aj.flatMap fun a=>if bM p p.aj.length a.id=bM p p.aj.length r then (List.range (au p a).length).map fun k=>(a,k) else []) (by
  obtain ⟨a,ha,e⟩:=kZ.1 hr;have hm:a.id∈bf p:=kZ.2 ⟨a,ha,.inl rfl⟩;have hs:bM p p.aj.length a.id=bM p p.aj.length r:=by
   rcases e with rfl | rfl
   · rfl
   · exact (h.Du hm).symm
  have hl:=ig p a;intro e;have:(a,0)∈(p.aj.flatMap fun a=>if bM p p.aj.length a.id=bM p p.aj.length r then (List.range (au p a).length).map fun k=>(a,k) else []) :=
   List.mem_flatMap.2 ⟨a,ha,by rw [if_pos hs];exact av6.2 ⟨0,List.mem_range.2 Pe,rfl⟩⟩
  rw [e] at this
  cases this)
 obtain ⟨a,ha,hq⟩:=List.mem_flatMap.1 hq;split at hq
 case isFalse => cases hq
 rename_i hsa;obtain ⟨k,hk,rfl⟩:=av6.1 hq;have hk:=List.mem_range.1 hk;simp only at hmax;have hl:=ig p a;have top:∀ c∈p.aj,bM p p.aj.length c.id=bM p p.aj.length r->∀ m,m<(au p c).length->hY ((au p c).getD m aA)<=hY ((au p a).getD k aA):=by
  intro c hc hs m hm;exact hmax (c,m) (List.mem_flatMap.2 ⟨c,hc,by rw [if_pos hs];exact av6.2 ⟨m,List.mem_range.2 hm,rfl⟩⟩)
 have loc:∀ z,(∀ a∈p.aj,z a.id≠0->bM p p.aj.length a.id=bM p p.aj.length r)->∀ u,nP p z ((au p a).getD k aA) u=fB p z (zC (fun x=>ind (gG ((au p a).getD k aA) x u)) ((au p a).getD k aA)):=by
  intro z hz u;generalize (au p a).getD k aA=v at *;have e:nP p z v u=fB p z (fun a b=>pR a b v+zC (fun x=>ind (gG v x u)) v a b):=by
   unfold nP;refine QH fun c _ m _=>?_;generalize (au p c).getD m aA=x;generalize (au p c).getD (m+1) aA=y;unfold tK zC ind;by_cases h1:x=v<;>by_cases h2:y=v<;>simp only [h1,h2,true_and,false_and,if_true,if_false]<;>omega
  rw [e,KN p z (fun a b=>pR a b v),aaJ (f:=fun a b=>pR a b v) (fun c hc=>?_),Int.zero_add];by_cases h0:z c.id=0
  · exact .inl h0
  ·right;intro m hm;have t1:=top c hc (hz c hc h0) m Pe;have t2:=top c hc (hz c hc h0) (m+1) hm;unfold pR;rw [if_neg Pe,if_neg Pe]
 have hma:a.id∈bf p:=kZ.2 ⟨a,ha,.inl rfl⟩;have anp:-a.id∈bf p:=kZ.2 ⟨a,ha,.inr rfl⟩;have node:∀ n∈p.nodes,(au p a).getD k aA=n.pt->(a.id∈dJ p n.id\/-a.id∈dJ p n.id)->∃ d∈bf p,bM p p.aj.length d=bM p p.aj.length r /\
   ∀ z,jc p z->(∀ a∈p.aj,z a.id≠0->bM p p.aj.length a.id=bM p p.aj.length r)->Hz p z d=0:=by
  intro n hn ev hor;rw [ev] at loc;have hpos:0<(dJ p n.id).length:=by
   rcases hor with e | e<;>exact List.length_pos_of_mem e
  have h0m:(dJ p n.id)[0]∈dJ p n.id:=avF hpos;have h0d:=(h.pK hn).subset h0m;obtain ⟨hdd,hst⟩:=h.KL h0d;refine ⟨-(dJ p n.id)[0],Dn hdd,?_,fun z hz hzs=>?_⟩
  ·rw [h.Du hdd];rcases hor with e | e
   · rw [h.aaz hn h0m e];exact hsa
   · rw [h.aaz hn h0m e,h.Du hma];exact hsa
  ·have hr0:nP p z n.pt (fC p (dJ p n.id)[0])=0:=by
    rw [loc z hzs,h.aat z _ hn];refine Em _ _ fun x hx=>?_;obtain ⟨j,hj,rfl⟩:=avI.1 ((h.pK hn).symm.subset hx)
    have:ind (gG n.pt (fC p (dJ p n.id)[j]) (fC p (dJ p n.id)[0]))=0:=by
     by_cases hj0:j=0
     · subst hj0;exact F7 _ _
     · exact if_neg (KO (h.afB hn (i:=0) (j:=j) Pe hj))
    rw [this,Int.mul_zero]
   have j:=h.Ob hz hn h0d;have j2:=h.afC hz hdd;have e:Hz p z (dJ p n.id)[0]=rM p z n.pt (fC p (dJ p n.id)[0]):=by
    unfold Hz;rw [hst,h.sound.uI hn]
   omega
 by_cases h0:k=0
 ·subst h0;obtain ⟨n,hn,e1,e2⟩:=h.sound.Ef ha;exact node n hn (by rw [Dj,e2]) (.inl ((h.pK hn).symm.subset (wJ.2 ⟨a,ha,.inl ⟨rfl,e1.symm⟩⟩)))
 by_cases h1:k=(au p a).length-1
 ·obtain ⟨n,hn,e1,e2⟩:=h.sound.FI ha;exact node n hn (by rw [h1,Dt,e2]) (.inr ((h.pK hn).symm.subset (wJ.2 ⟨a,ha,.inr ⟨rfl,e1.symm⟩⟩)))
 ·obtain ⟨m,rfl⟩:∃ m,k=m+1:=⟨k-1,by omega⟩;have hin:m+2<(au p a).length:=by omega
  have at_:=fun z φ=>h.Vl z φ ha (j:=m+1) Pe hin;rcases h.aav ha hin with c | c
  ·refine ⟨a.id,hma,hsa,fun z hz hzs=>?_⟩;rw [<- (h.QO hz ha (m:=m) Pe).2,loc z hzs,at_ z,show m+1-1=m by omega,show m+1+1=m+2 by omega,F7];rw [show ind (gG ((au p a).getD (m+1) aA) ((au p a).getD (m+2) aA) ((au p a).getD m aA))=0 from if_neg (KO c),Int.sub_self,Int.mul_zero]
  ·refine ⟨-a.id,anp,by rw [h.Du hma];exact hsa,fun z hz hzs=>?_⟩;rw [<- (h.QO hz ha (m:=m+1) Pe).1,loc z hzs,at_ z,show m+1-1=m by omega,show m+1+1=m+2 by omega,F7];rw [show ind (gG ((au p a).getD (m+1) aA) ((au p a).getD m aA) ((au p a).getD (m+2) aA))=0 from if_neg (KO c),Int.sub_self,Int.mul_zero]
theorem Valid.Es {X:List Int} (hX:X∈cO p) {d e:Int} (hd:d∈X) (he:e∈X):bM p p.aj.length d=bM p p.aj.length e:=by
 have h2:=(h.lV hX).2;refine h.aay (k:=0) (avK _) (awe _) ?_
 show tN (cO p) d=tN (cO p) e
 rw [h.head_eq hX (h2 d hd) hd,h.head_eq hX (h2 e he) he]
theorem Valid.anq {X:List Int} (hX:X∈cO p) {r d0:Int} (hr:r∈X) (hd:d0∈bf p) (hs:bM p p.aj.length d0=bM p p.aj.length r)
  (h0:∀ z,jc p z->(∀ a∈p.aj,z a.id≠0->bM p p.aj.length a.id=bM p p.aj.length r)->Hz p z d0=0):0<iD p X↔d0∉X:=by
 have hz:=h.Ep hX;have h2:=(h.lV hX).2;have QS:∀ a∈p.aj,bP X a.id≠0->bM p p.aj.length a.id=bM p p.aj.length r:=by
  intro a ha hne;have hma:a.id∈bf p:=kZ.2 ⟨a,ha,.inl rfl⟩;by_cases c1:a.id∈X
  · exact h.Es hX c1 hr
  ·by_cases c2:-a.id∈X
   · rw [<- h.Du hma];exact h.Es hX c2 hr
   · exact absurd avq hne
 have hH:=h0 _ hz QS;have cl:∀ d∈bf p,bM p p.aj.length d=bM p p.aj.length r->Hz p (bP X) d=(if d∈X then 1 else 0)-(if d0∈X then 1 else 0):=by
  intro d hd' hsd;have:=h.aaO hX hd' hd (by rw [hsd,hs])
  omega
 have two:∀ a∈p.aj,bP X a.id≠0->Hz p (bP X) a.id=(if a.id∈X then 1 else 0)-(if d0∈X then 1 else 0)/\Hz p (bP X) (-a.id)=(if -a.id∈X then 1 else 0)-(if d0∈X then 1 else 0):=by
  intro a ha hne;have hma:a.id∈bf p:=kZ.2 ⟨a,ha,.inl rfl⟩;exact ⟨cl _ hma (QS a ha hne),cl _ (Dn hma) (by rw [h.Du hma];exact QS a ha hne)⟩
 rw [h.aaN hX];by_cases c:d0∈X
 ·refine ⟨fun hp=>?_,fun hn=>absurd c hn⟩;exfalso;have hneg:jc p (fun i=>-bP X i):=fun n hn=>by
   have:=hz n hn
   show (p.aj.map fun a=>-bP X a.id*((if a.dst=n.id then 1 else 0)-(if a.fr=n.id then 1 else 0))).sum=0
   refine (jF _ _ (fun a:Ar=>-(bP X a.id*((if a.dst=n.id then (1:Int) else 0)-(if a.fr=n.id then 1 else 0)))) (fun a _=>Int.neg_mul _ _)).trans ?_;rw [BH,this];rfl
  have hN:∀ d,Hz p (fun i=>-bP X i) d=-Hz p (bP X) d:=fun d=>Vw _ _ _;have:=(h.aaI hneg (fun a ha hne=>by
   have hne':bP X a.id≠0:=fun e=>hne (by show -_=(0:Int);rw [e];rfl);obtain ⟨t1,t2⟩:=two a ha hne';rw [hN,hN,t1,t2,if_pos c];unfold bP at hne';by_cases c1:a.id∈X<;>by_cases c2:-a.id∈X<;>simp only [c1,c2,if_true,if_false] at hne' ⊢ <;> omega)).1
  rw [Vw] at this;omega
 ·refine ⟨fun _=>c,fun _=>?_⟩;refine (h.aaI hz (fun a ha hne=>by
   obtain ⟨t1,t2⟩:=two a ha hne;rw [t1,t2,if_neg c];unfold bP at hne;by_cases c1:a.id∈X<;>by_cases c2:-a.id∈X<;>simp only [c1,c2,if_true,if_false] at hne ⊢ <;> omega)).2 ?_
  apply Classical.byContradiction;intro hno;have h1:=cl r (h2 r hr) rfl;rw [if_pos hr,if_neg c] at h1
  have:Hz p (bP X) r=0:=aaJ fun a ha=>.inl (Classical.byContradiction fun e=>hno ⟨a,ha,e⟩)
  omega
end
set_option linter.unusedSectionVars false
def BI (v a b:Pt):Int:=if a.y<=v.y/\v.y<b.y/\0<tw a b v then 1 else if b.y<=v.y/\v.y<a.y/\0<tw b a v then -1 else 0
def yu (p:Pl) (z:Int->Int) (v:Pt):Int:=fB p z (BI v)
def kN (a b v:Pt):Prop:=tw a b v=0/\min a.x b.x<=v.x/\v.x<=max a.x b.x/\min a.y b.y<=v.y/\v.y<=max a.y b.y
instance (a b v:Pt):Decidable (kN a b v):=by unfold kN;infer_instance
def BJ (p:Pl) (z:Int->Int) (v:Pt):Prop:=∀ a∈p.aj,z a.id≠0->∀ k,k+1<(au p a).length->¬ kN ((au p a).getD k aA) ((au p a).getD (k+1) aA) v
theorem anr (a b v:Pt):xN a b (2*hY v)-2*v.x*(hY b-hY a)=16777216*tw a b v:=by unfold xN tw hY;grind
theorem afU {D:Int} (hD:0<D) {a b v:Pt} (hab:hY a<hY b) (hd:hY b-hY a∣D):2*D*v.x<xE D a b (2*hY v)↔0<tw a b v:=by
 obtain ⟨q,hq⟩:=hd;unfold xE;have e1:D / (hY b-hY a)=q:=by rw [hq];exact Int.mul_ediv_cancel_left _ Pe
 have hx:=anr a b v;have hn:0<hY b-hY a:=by omega
 rw [e1];generalize hY b-hY a=n at *;generalize xN a b (2*hY v)=X at *;have hqp:0<q:=by
  rcases Int.lt_trichotomy q 0 with g | g | g
  · have:=Int.mul_neg_of_pos_of_neg hn g;omega
  · subst g;rw [Int.mul_zero] at hq;omega
  · exact g
 have k:X*q-2*D*v.x=(X-2*v.x*n)*q:=by rw [hq];grind
 rw [hx] at k;have s1:0<tw a b v->0<16777216*tw a b v*q:=fun h=>Int.mul_pos Pe hqp;have s2:tw a b v<=0->16777216*tw a b v*q<=0:=fun h=>Int.mul_nonpos_of_nonpos_of_nonneg Pe Pe;generalize tw a b v=t at *;constructor<;>intro<;>omega
theorem aaP (p:Pl) (z u:Int->Int) (f:Pt->Pt->Int):fB p (fun i=>z i+u i) f=fB p z f+fB p u f:=by
 unfold fB;rw [<- yt];exact jF _ _ _ fun a _=>by rw [Int.add_mul]
theorem jc.add {p:Pl} {z u:Int->Int} (h1:jc p z) (h2:jc p u):jc p (fun i=>z i+u i):=fun n hn=>by
 have e1:=h1 n hn;have e2:=h2 n hn;refine (jF _ _ (fun a:Ar=>z a.id*((if a.dst=n.id then (1:Int) else 0)-(if a.fr=n.id then 1 else 0))+u a.id*((if a.dst=n.id then (1:Int) else 0)-(if a.fr=n.id then 1 else 0))) (fun a _=>Int.add_mul _ _ _)).trans ?_;rw [yt,e1,e2];rfl
theorem jc.neg {p:Pl} {z:Int->Int} (h1:jc p z):jc p (fun i=>-z i):=fun n hn=>by
 have e1:=h1 n hn;refine (jF _ _ (fun a:Ar=>-(z a.id*((if a.dst=n.id then (1:Int) else 0)-(if a.fr=n.id then 1 else 0)))) (fun a _=>Int.neg_mul _ _)).trans ?_;rw [BH,e1];rfl
theorem ant {D:Int} (hD:0<D) {a b v:Pt} (na:aZ a=true) (nb:aZ b=true) (nv:aZ v=true) (hne:a≠b) (hd:hY b-hY a∣D) (hav:a≠v) (hbv:b≠v) (hoff:¬ kN a b v) :
  BI v a b=(if 2*D*v.x<xE D a b (2*hY v) then gJ (2*hY v) a b else 0)+((if a.y=v.y/\v.x<a.x then 1 else 0)-(if b.y=v.y/\v.x<b.x then 1 else 0)):=by
 have key:∀ {a b:Pt},aZ a=true->aZ b=true->hY a<hY b->hY b-hY a∣D->a≠v->b≠v->¬ kN a b v ->
   BI v a b=(if 2*D*v.x<xE D a b (2*hY v) then gJ (2*hY v) a b else 0)+((if a.y=v.y/\v.x<a.x then 1 else 0)-(if b.y=v.y/\v.x<b.x then 1 else 0)):=by
  intro a b na nb hab hd hav hbv hoff;have hx:=afU hD (v:=v) hab hd;simp only [hx];rw [vJ] at na nb nv;have ha:¬ (a.x=v.x/\a.y=v.y):=fun e=>hav (Pt.ext_iff'.2 e);have hb:¬ (b.x=v.x/\b.y=v.y):=fun e=>hbv (Pt.ext_iff'.2 e);have tba:tw b a v=-tw a b v:=by unfold tw;grind
  unfold BI gJ kN at *;rw [tba];unfold hY at *;have s1:a.y=v.y->tw a b v=(b.y-a.y)*(a.x-v.x):=fun e=>by unfold tw;rw [e];grind
  have s2:b.y=v.y->tw a b v=(b.y-a.y)*(b.x-v.x):=fun e=>by unfold tw;rw [e];grind
  have p1:∀ {x y:Int},0<x->0<y->0<x*y:=fun h1 h2=>Int.mul_pos h1 h2;have p2:∀ {x y:Int},0<x->y<0->x*y<0:=fun h1 h2=>Int.mul_neg_of_pos_of_neg h1 h2;generalize tw a b v=t at *;by_cases hy:a.y=b.y
  ·have hx2:a.x<b.x:=by omega
   have e1:¬ (a.y<=v.y/\v.y<b.y/\0<t):=by omega
   have e2:¬ (b.y<=v.y/\v.y<a.y/\0 < -t):=by omega
   rw [if_neg e1,if_neg e2];by_cases hv:a.y=v.y
   ·have t0:t=0:=by rw [s1 hv,hy,Int.sub_self,Int.zero_mul]
    rw [if_neg (show ¬ 0<t by omega)];by_cases c:v.x<a.x
    · rw [if_pos ⟨hv,c⟩,if_pos Pe];rfl
    ·have:¬ v.x<b.x:=fun c2=>hoff ⟨t0,by omega⟩
     rw [if_neg Pe,if_neg Pe];rfl
   ·rw [if_neg (show ¬ (a.y=v.y/\v.x<a.x) by omega),if_neg (show ¬ (b.y=v.y/\v.x<b.x) by omega)];split
    ·by_cases c:v.y<a.y
     · rw [if_pos Pe,if_pos Pe];rfl
     · rw [if_neg Pe,if_neg Pe];rfl
    · rfl
  ·have hy:a.y<b.y:=by omega
   rw [if_neg (show ¬ (b.y<=v.y/\v.y<a.y/\0 < -t) by omega)];by_cases c1:a.y=v.y
   ·have e:=s1 c1;rw [if_neg (show ¬ (b.y=v.y/\v.x<b.x) by omega)];by_cases c2:v.x<a.x
    ·have:=p1 (show 0<b.y-a.y by omega) (show 0<a.x-v.x by omega)
     rw [if_pos (show a.y<=v.y/\v.y<b.y/\0<t by omega),if_pos (show 0<t by omega),if_pos Pe,if_pos Pe,if_pos ⟨c1,c2⟩];rfl
    ·have:=p2 (show 0<b.y-a.y by omega) (show a.x-v.x<0 by omega)
     rw [if_neg (show ¬ (a.y<=v.y/\v.y<b.y/\0<t) by omega),if_neg (show ¬ 0<t by omega),if_neg Pe];rfl
   ·rw [if_neg (show ¬ (a.y=v.y/\v.x<a.x) by omega)];by_cases c2:b.y=v.y
    ·have e:=s2 c2;rw [if_neg (show ¬ (a.y<=v.y/\v.y<b.y/\0<t) by omega)];by_cases c3:v.x<b.x
     ·have:=p1 (show 0<b.y-a.y by omega) (show 0<b.x-v.x by omega)
      rw [if_pos (show 0<t by omega),if_pos Pe,if_neg Pe,if_pos ⟨c2,c3⟩];rfl
     ·have:=p2 (show 0<b.y-a.y by omega) (show b.x-v.x<0 by omega)
      rw [if_neg (show ¬ 0<t by omega),if_neg Pe];rfl
    ·rw [if_neg (show ¬ (b.y=v.y/\v.x<b.x) by omega)];by_cases c3:0<t
     ·rw [if_pos c3];by_cases c4:a.y<v.y/\v.y<b.y
      · rw [if_pos Pe,if_pos Pe,if_neg Pe];rfl
      ·rw [if_neg Pe];by_cases c5:v.y<a.y
       · rw [if_pos Pe,if_pos Pe];rfl
       · rw [if_neg Pe,if_neg Pe];rfl
     · rw [if_neg Pe,if_neg c3];rfl
 rcases Int.lt_trichotomy (hY a) (hY b) with c | c | c
 · exact key na nb c hd hav hbv hoff
 · exact absurd (oU na nb c) hne
 ·have anu:¬ kN b a v:=fun e=>hoff (by
   obtain ⟨e1,e2⟩:=e;refine ⟨?_,by rw [Int.min_comm,Int.max_comm a.x,Int.min_comm a.y,Int.max_comm a.y];exact e2⟩
   have:tw b a v=-tw a b v:=by unfold tw;grind
   omega)
  have e:=key nb na c (by rw [show hY a-hY b=-(hY b-hY a) by omega];exact Int.neg_dvd.2 hd) hbv hav anu;have e1:BI v b a=-BI v a b:=by
   unfold BI;by_cases c1:b.y<=v.y/\v.y<a.y/\0<tw b a v
   · rw [if_pos c1,if_neg Pe,if_pos c1];rfl
   ·by_cases c2:a.y<=v.y/\v.y<b.y/\0<tw a b v
    · rw [if_neg c1,if_pos c2,if_pos c2]
    · rw [if_neg c1,if_neg c2,if_neg c2,if_neg c1];rfl
  have e2:gJ (2*hY v) b a=-gJ (2*hY v) a b:=by unfold gJ;omega
  rw [e1,Jq,e2] at e;split at e<;>rename_i c<;>first | rw [if_pos c];omega | rw [if_neg c];omega
section
variable {p:Pl} (h:Valid p)
include h
theorem Valid.Vx:∃ D:Int,0<D/\∀ a∈p.aj,∀ k,k+1<(au p a).length->hY ((au p a).getD (k+1) aA)-hY ((au p a).getD k aA)∣D:=by
 obtain ⟨D,h1,h2⟩:=aaG (p.aj.flatMap fun a=>(List.range ((au p a).length-1)).map fun k=>hY ((au p a).getD (k+1) aA)-hY ((au p a).getD k aA)) (fun x hx=>by
  obtain ⟨a,ha,hx⟩:=List.mem_flatMap.1 hx;obtain ⟨k,hk,rfl⟩:=av6.1 hx;have hk:=List.mem_range.1 hk;intro e;exact (h.distinct ha (k:=k) Pe).1 (oU (h.dS ha Pe) (h.dS ha Pe) Pe))
 exact ⟨D,h1,fun a ha k hk=>h2 _ (List.mem_flatMap.2 ⟨a,ha,av6.2 ⟨k,List.mem_range.2 Pe,rfl⟩⟩)⟩
theorem Valid.Jr {z:Int->Int} {v:Pt} (hoff:BJ p z v) {a:Ar} (ha:a∈p.aj) (hza:z a.id≠0) {k:Nat} (hk:k<(au p a).length):(au p a).getD k aA≠v:=by
 have hl:=ig p a;intro e;by_cases h1:k+1<(au p a).length
 ·refine hoff a ha hza k h1 ?_;rw [e];exact ⟨FW _ _,by omega⟩
 ·obtain ⟨m,rfl⟩:∃ m,k=m+1:=⟨k-1,by omega⟩;refine hoff a ha hza m Pe ?_;rw [e];exact ⟨FX _ _,by omega⟩
theorem Valid.anv {z:Int->Int} {v:Pt} (nv:aZ v=true) (hoff:BJ p z v):zF p z (2*hY v):=fun a ha hza k hk e =>
 h.Jr hoff ha hza hk (oU (h.dS ha hk) nv Pe)
theorem Valid.afV {z:Int->Int} (hz:jc p z) {D:Int} (hD:0<D) (hd:∀ a∈p.aj,∀ k,k+1<(au p a).length->hY ((au p a).getD (k+1) aA)-hY ((au p a).getD k aA)∣D)
  {v:Pt} (nv:aZ v=true) (hoff:BJ p z v):yu p z v=oH (pW p z D (2*hY v)) (2*D*v.x):=by
 have t:=h.QI hz (fun u=>-(if u.y=v.y/\v.x<u.x then 1 else 0));have bS:oH (pW p z D (2*hY v)) (2*D*v.x)=fB p z (fun a b=>if 2*D*v.x<xE D a b (2*hY v) then gJ (2*hY v) a b else 0) :=
  Oe p z D (2*hY v) (fun x s=>if 2*D*v.x<x then s else 0) (fun x c s=>by split<;>simp)
 rw [bS];have e:yu p z v=fB p z (fun a b=>(if 2*D*v.x<xE D a b (2*hY v) then gJ (2*hY v) a b else 0)+(-(if b.y=v.y/\v.x<b.x then 1 else 0) - -(if a.y=v.y/\v.x<a.x then 1 else 0))):=by
  refine Vs fun a ha hza k hk=>?_;have:=ant hD (h.dS ha (k:=k) Pe) (h.dS ha hk) nv (h.distinct ha hk).1 (hd a ha k hk) (h.Jr hoff ha hza (k:=k) Pe) (h.Jr hoff ha hza hk) (hoff a ha hza k hk)
  omega
 rw [e,KN p z (fun a b=>if 2*D*v.x<xE D a b (2*hY v) then gJ (2*hY v) a b else 0) (fun a b=>-(if b.y=v.y/\v.x<b.x then 1 else 0) - -(if a.y=v.y/\v.x<a.x then 1 else 0)),t,Int.add_zero]
theorem Valid.afW {z:Int->Int} (hz:jc p z) (hw:∀ a∈p.aj,z a.id≠0->(Hz p z (-a.id)=0/\Hz p z a.id=1)\/(Hz p z (-a.id)=1/\Hz p z a.id=0))
  {D:Int} (hD:0<D) (hd:∀ a∈p.aj,∀ k,k+1<(au p a).length->hY ((au p a).getD (k+1) aA)-hY ((au p a).getD k aA)∣D) {τ:Int} (hτ:zF p z τ) (t:Int) :
  oH (pW p z D τ) t=0\/oH (pW p z D τ) t=1:=by
 obtain ⟨B,hB⟩:=aaE (pW p z D τ);exact aaD (h.afT hz hw hD hd hτ) (B+t.natAbs) t (fun v hv _=>by have:=hB v hv;omega)
theorem Valid.afX {z:Int->Int} (hz:jc p z) (hw:∀ a∈p.aj,z a.id≠0->(Hz p z (-a.id)=0/\Hz p z a.id=1)\/(Hz p z (-a.id)=1/\Hz p z a.id=0))
  {v:Pt} (nv:aZ v=true) (hoff:BJ p z v):yu p z v=0\/yu p z v=1:=by
 obtain ⟨D,hD,hd⟩:=h.Vx;rw [h.afV hz hD hd nv hoff];exact h.afW hz hw hD hd (h.anv nv hoff) _
theorem Valid.anw {z:Int->Int} (hz:jc p z) (hw:∀ a∈p.aj,z a.id≠0->(Hz p z (-a.id)=0/\Hz p z a.id=1)\/(Hz p z (-a.id)=1/\Hz p z a.id=0))
  {e:Int} (he:e∈bf p):Hz p z e=0\/Hz p z e=1:=by
 obtain ⟨a,ha,hor⟩:=kZ.1 he;by_cases h0:z a.id=0
 ·obtain ⟨D,hD,hd⟩:=h.Vx;have hl:=ig p a;have hp:=h.En hz ha;have hk:0+1<(au p a).length:=by omega
  have hne:hY ((au p a).getD 0 aA)≠hY ((au p a).getD (0+1) aA):=fun e=>(h.distinct ha hk).1 (oU (h.dS ha Pe) (h.dS ha hk) e);have b:=(h.aaH hz hD hd (zF.odd z (τ:=2*min (hY ((au p a).getD 0 aA)) (hY ((au p a).getD (0+1) aA))+1) Pe) ha hk Pe).1;have c:=h.afW hz hw hD hd (zF.odd z (τ:=2*min (hY ((au p a).getD 0 aA)) (hY ((au p a).getD (0+1) aA))+1) Pe) (xE D ((au p a).getD 0 aA) ((au p a).getD (0+1) aA) (2*min (hY ((au p a).getD 0 aA)) (hY ((au p a).getD (0+1) aA))+1));rw [b] at c;rcases hor with rfl | rfl<;>split at c<;>omega
 ·have:=hw a ha h0
  rcases hor with rfl | rfl<;>omega
theorem Valid.F8 {X:List Int} (hX:X∈cO p) (hp:0<iD p X) {r d:Int} (hr:r∈X) (hd:d∈bf p) (hs:bM p p.aj.length d=bM p p.aj.length r):Hz p (bP X) d=if d∈X then 1 else 0:=by
 have h2:=(h.lV hX).2;obtain ⟨d0,g1,g2,g3⟩:=h.ano (h2 r hr);have hz:=h.Ep hX;have hn:=(h.anq hX hr g1 g2 g3).1 hp;have QS:∀ a∈p.aj,bP X a.id≠0->bM p p.aj.length a.id=bM p p.aj.length r:=by
  intro a ha hne;have hma:a.id∈bf p:=kZ.2 ⟨a,ha,.inl rfl⟩;by_cases c1:a.id∈X
  · exact h.Es hX c1 hr
  ·by_cases c2:-a.id∈X
   · rw [<- h.Du hma];exact h.Es hX c2 hr
   · exact absurd avq hne
 have h0:=g3 _ hz QS;have:=h.aaO hX hd g1 (by rw [hs,g2])
 rw [h0,if_neg hn] at this;omega
theorem Valid.KQ {X:List Int} (hX:X∈cO p) {r:Int} (hr:r∈X) {a:Ar} (ha:a∈p.aj) (hne:bP X a.id≠0):bM p p.aj.length a.id=bM p p.aj.length r/\bM p p.aj.length (-a.id)=bM p p.aj.length r:=by
 have hma:a.id∈bf p:=kZ.2 ⟨a,ha,.inl rfl⟩;have e:=h.Du hma;by_cases c1:a.id∈X
 ·have:=h.Es hX c1 hr
  exact ⟨this,by rw [e];exact this⟩
 ·by_cases c2:-a.id∈X
  ·have:=h.Es hX c2 hr
   exact ⟨by rw [<- e];exact this,this⟩
  · exact absurd avq hne
theorem Valid.afY {X:List Int} (hX:X∈cO p) (hp:0<iD p X):∀ a∈p.aj,bP X a.id≠0->(Hz p (bP X) (-a.id)=0/\Hz p (bP X) a.id=1)\/(Hz p (bP X) (-a.id)=1/\Hz p (bP X) a.id=0):=by
 intro a ha hne;obtain ⟨r,-,-,-,hr⟩:=h.uN hX;have hma:a.id∈bf p:=kZ.2 ⟨a,ha,.inl rfl⟩;obtain ⟨s1,s2⟩:=h.KQ hX hr ha hne;rw [h.F8 hX hp hr hma s1,h.F8 hX hp hr (Dn hma) s2];unfold bP at hne;by_cases c1:a.id∈X<;>by_cases c2:-a.id∈X<;>simp [c1,c2] at hne ⊢
theorem Valid.aaQ {X:List Int} (hX:X∈cO p) (hp:0<iD p X) {r e:Int} (hr:r∈X) (he:e∈bf p) (hs:bM p p.aj.length e≠bM p p.aj.length r) :
  (Hz p (bP X) e=0\/Hz p (bP X) e=1)/\∀ d∈bf p,bM p p.aj.length d=bM p p.aj.length e->Hz p (bP X) d=Hz p (bP X) e:=by
 refine ⟨h.anw (h.Ep hX) (h.afY hX hp) he,fun d hd hde=>?_⟩;have:=h.aaO hX hd he hde
 have n1:e∉X:=fun c=>hs (h.Es hX c hr);have n2:d∉X:=fun c=>hs (by rw [<- hde];exact h.Es hX c hr);rw [if_neg n1,if_neg n2] at this;omega
theorem Valid.Js (z u:Int->Int) (d:Int):Hz p (fun i=>z i+u i) d=Hz p z d+Hz p u d:=aaP p z u _
theorem Valid.aaR (z:Int->Int) (d:Int):Hz p (fun i=>-z i) d=-Hz p z d:=Vw p z _
theorem Valid.afZ {z:Int->Int} (h0:∀ a∈p.aj,z a.id=0) (d:Int):Hz p z d=0:=aaJ fun a ha=>.inl (h0 a ha)
theorem Valid.anx {z:Int->Int} (hz:jc p z) (hne:∃ a∈p.aj,z a.id≠0):∃ a∈p.aj,z a.id≠0/\(Hz p z a.id=0\/Hz p z (-a.id)=0):=by
 obtain ⟨a,ha,hza⟩:=hne;obtain ⟨D,hD,hd⟩:=h.Vx;have hl:=ig p a;have hk:0+1<(au p a).length:=by omega
 have hnq:hY ((au p a).getD 0 aA)≠hY ((au p a).getD (0+1) aA):=fun e=>(h.distinct ha hk).1 (oU (h.dS ha Pe) (h.dS ha hk) e);obtain ⟨τ,hτ⟩:∃ τ,τ=2*min (hY ((au p a).getD 0 aA)) (hY ((au p a).getD (0+1) aA))+1:=⟨_,rfl⟩;have hfr:zF p z τ:=zF.odd z Pe;have hs0:gJ τ ((au p a).getD 0 aA) ((au p a).getD (0+1) aA)≠0:=by
  unfold gJ;by_cases c:hY ((au p a).getD 0 aA)<hY ((au p a).getD (0+1) aA)
  · rw [if_pos Pe,if_neg Pe];omega
  · rw [if_neg Pe,if_pos Pe];omega
 have hmem:(xE D ((au p a).getD 0 aA) ((au p a).getD (0+1) aA) τ,z a.id*gJ τ ((au p a).getD 0 aA) ((au p a).getD (0+1) aA))∈pW p z D τ :=
  List.mem_flatMap.2 ⟨a,ha,av6.2 ⟨0,List.mem_range.2 Pe,rfl⟩⟩
 obtain ⟨u,hu,hmax⟩:=aaK (fun u:Int×Int=>u.1) ((pW p z D τ).filter (fun u=>decide (u.2≠0))) (by
  intro e;have:(xE D ((au p a).getD 0 aA) ((au p a).getD (0+1) aA) τ,z a.id*gJ τ ((au p a).getD 0 aA) ((au p a).getD (0+1) aA))∈(pW p z D τ).filter (fun u=>decide (u.2≠0)) :=
   av7.2 ⟨hmem,by
    rw [avQ];intro e;rcases Int.mul_eq_zero.1 e with e | e
    · exact hza e
    · exact hs0 e⟩
  rw [e] at this
  cases this)
 rw [av7,avQ] at hu;obtain ⟨hu,hu0⟩:=hu;have hb0:oH (pW p z D τ) u.1=0:=by
  refine Em _ _ fun v hv=>?_;by_cases c:v.2=0
  · rw [c];split<;>rfl
  ·have:=hmax v (av7.2 ⟨hv,by rw [avQ];exact c⟩)
   rw [if_neg Pe]
 obtain ⟨c,hc,hu⟩:=List.mem_flatMap.1 hu;obtain ⟨k,hk2,rfl⟩:=av6.1 hu;have hk2:=List.mem_range.1 hk2;simp only at hu0 hb0;have hz0:z c.id≠0:=fun e=>hu0 (by rw [e,Int.zero_mul]);have hs1:gJ τ ((au p c).getD k aA) ((au p c).getD (k+1) aA)≠0:=fun e=>hu0 (by rw [e,Int.mul_zero]);have hsp:=Vt (hfr c hc hz0 k Pe) (hfr c hc hz0 (k+1) Pe) hs1;have b:=(h.aaH hz hD hd hfr hc (k:=k) Pe (by
  rcases hsp with ⟨g1,g2,-⟩ | ⟨g1,g2,-⟩
  · exact .inl ⟨g1,g2⟩
  · exact .inr ⟨g1,g2⟩)).1
 rw [hb0] at b;refine ⟨c,hc,hz0,?_⟩;split at b
 · exact .inr b.symm
 · exact .inl b.symm
theorem Valid.anz {X Y:List Int} (hX:X∈cO p) (tV:Y∈cO p) (KR:0<iD p X) (KT:0<iD p Y) (hXY:X≠Y) {v:Pt} (nv:aZ v=true)
  (oX:BJ p (bP X) v) (oY:BJ p (bP Y) v) (wX:yu p (bP X) v=1) (wY:yu p (bP Y) v=1):iD p X≠iD p Y:=by
 obtain ⟨x,hxd,-,-,hx⟩:=h.uN hX;obtain ⟨y,hyd,-,-,hy⟩:=h.uN tV;have zX:=h.Ep hX;have zY:=h.Ep tV;have both:∀ d,¬ (d∈X/\d∈Y):=fun d hd=>hXY (h.aax hX tV hd.1 hd.2);have dm:∀ a∈p.aj,a.id∈bf p/\-a.id∈bf p:=fun a ha=>⟨kZ.2 ⟨a,ha,.inl rfl⟩,kZ.2 ⟨a,ha,.inr rfl⟩⟩;have sup:∀ a∈p.aj,bP X a.id+bP Y a.id≠0->(bM p p.aj.length a.id=bM p p.aj.length x/\bM p p.aj.length (-a.id)=bM p p.aj.length x)\/(bM p p.aj.length a.id=bM p p.aj.length y/\bM p p.aj.length (-a.id)=bM p p.aj.length y):=by
  intro a ha hne;by_cases c:bP X a.id=0
  · exact .inr (h.KQ tV hy ha Pe)
  · exact .inl (h.KQ hX hx ha c)
 have af0:BJ p (fun i=>bP X i+bP Y i) v:=fun a ha hne k hk=>by
  have hne:bP X a.id+bP Y a.id≠0:=hne;by_cases c:bP X a.id=0
  · exact oY a ha Pe k hk
  · exact oX a ha c k hk
 have wS:yu p (fun i=>bP X i+bP Y i) v=2:=by unfold yu at *;rw [aaP,wX,wY];rfl
 have af2:¬ ∀ a∈p.aj,bP X a.id+bP Y a.id≠0->(Hz p (bP X) (-a.id)+Hz p (bP Y) (-a.id)=0/\Hz p (bP X) a.id+Hz p (bP Y) a.id=1)\/(Hz p (bP X) (-a.id)+Hz p (bP Y) (-a.id)=1/\Hz p (bP X) a.id+Hz p (bP Y) a.id=0):=by
  intro hw;have:=h.afX (zX.add zY) (fun a ha hne=>by rw [h.Js,h.Js];exact hw a ha hne) nv af0
  omega
 have jump:∀ a∈p.aj,Hz p (bP X) a.id-Hz p (bP X) (-a.id)=bP X a.id/\Hz p (bP Y) a.id-Hz p (bP Y) (-a.id)=bP Y a.id:=fun a ha=>⟨h.En zX ha,h.En zY ha⟩;by_cases hc:bM p p.aj.length x=bM p p.aj.length y
 ·exfalso;refine af2 fun a ha hne=>?_;have hs:bM p p.aj.length a.id=bM p p.aj.length x/\bM p p.aj.length (-a.id)=bM p p.aj.length x:=by
   rcases sup a ha hne with g | g
   · exact g
   · rw [hc];exact g
  have j:=jump a ha;have a1:=h.F8 hX KR hx (dm a ha).1 hs.1;have a2:=h.F8 hX KR hx (dm a ha).2 hs.2;have a3:=h.F8 tV KT hy (dm a ha).1 (hs.1.trans hc);have a4:=h.F8 tV KT hy (dm a ha).2 (hs.2.trans hc);have b1:=both a.id;have b2:=both (-a.id);have t1:Hz p (bP X) a.id+Hz p (bP Y) a.id=0\/Hz p (bP X) a.id+Hz p (bP Y) a.id=1:=by
   rw [a1,a3];by_cases c1:a.id∈X<;>by_cases c2:a.id∈Y<;>simp only [c1,c2,if_true,if_false] at b1 ⊢ <;> simp at b1 ⊢
  have t2:Hz p (bP X) (-a.id)+Hz p (bP Y) (-a.id)=0\/Hz p (bP X) (-a.id)+Hz p (bP Y) (-a.id)=1:=by
   rw [a2,a4];by_cases c1:-a.id∈X<;>by_cases c2:-a.id∈Y<;>simp only [c1,c2,if_true,if_false] at b2 ⊢ <;> simp at b2 ⊢
  omega
 ·obtain ⟨α01,αc⟩:=h.aaQ hX KR hx hyd (fun e=>hc e.symm);obtain ⟨β01,βc⟩:=h.aaQ tV KT hy hxd hc;have Et:∀ d∈bf p,bM p p.aj.length d=bM p p.aj.length x->Hz p (bP X) d=(if d∈X then 1 else 0)/\Hz p (bP Y) d=Hz p (bP Y) x:=fun d hd hs=>⟨h.F8 hX KR hx hd hs,βc d hd hs⟩;have F9:∀ d∈bf p,bM p p.aj.length d=bM p p.aj.length y->Hz p (bP Y) d=(if d∈Y then 1 else 0)/\Hz p (bP X) d=Hz p (bP X) y:=fun d hd hs=>⟨h.F8 tV KT hy hd hs,αc d hd hs⟩;generalize Hz p (bP X) y=α at *;generalize Hz p (bP Y) x=β at *;have uO:∀ (P:Prop) [Decidable P],(if P then (1:Int) else 0)=0\/(if P then (1:Int) else 0)=1:=fun P _=>by split<;>simp
  have diff:∀ {X Y:List Int} {x:Int},X∈cO p->Y∈cO p->jc p (bP X)->jc p (bP Y)->x∈X->x∈bf p ->
    (∀ a∈p.aj,bP X a.id + -bP Y a.id≠0->(Hz p (bP X) (-a.id)-Hz p (bP Y) (-a.id)=0\/Hz p (bP X) (-a.id)-Hz p (bP Y) (-a.id)=1)/\(Hz p (bP X) a.id-Hz p (bP Y) a.id=0\/Hz p (bP X) a.id-Hz p (bP Y) a.id=1)) ->
    Hz p (bP X) x-Hz p (bP Y) x=1->iD p Y<iD p X:=by
   intro X Y x hX tV zX zY hx hxd hw h1;have hp:=(h.aaI (zX.add zY.neg) (fun a ha hne=>by
    have j1:=h.En zX ha;have j2:=h.En zY ha;have hw:=hw a ha hne;have hne:bP X a.id + -bP Y a.id≠0:=hne;rw [h.Js,h.Js,h.aaR,h.aaR];omega)).2 (Classical.byContradiction fun hno=>by
     have:=h.afZ (z:=fun i=>bP X i + -bP Y i) (fun a ha=>Classical.byContradiction fun e=>hno ⟨a,ha,e⟩) x
     rw [h.Js,h.aaR] at this;omega)
   rw [aaP,Vw,<- h.aaN hX,<- h.aaN tV] at hp;omega
  have aur:∀ {z:Int},True->True:=fun h=>h;rcases α01 with α0 | α1<;>rcases β01 with β0 | β1
  ·exfalso;refine af2 fun a ha hne=>?_;have j:=jump a ha;rcases sup a ha hne with g | g
   ·obtain ⟨e1,e2⟩:=Et _ (dm a ha).1 g.1;obtain ⟨e3,e4⟩:=Et _ (dm a ha).2 g.2;have i1:=uO (a.id∈X);have i2:=uO (-a.id∈X);omega
   ·obtain ⟨e1,e2⟩:=F9 _ (dm a ha).1 g.1;obtain ⟨e3,e4⟩:=F9 _ (dm a ha).2 g.2;have i1:=uO (a.id∈Y);have i2:=uO (-a.id∈Y);omega
  ·have:=diff tV hX zY zX hy hyd (fun a ha hne=>by
    have hs:(bM p p.aj.length a.id=bM p p.aj.length x/\bM p p.aj.length (-a.id)=bM p p.aj.length x)\/(bM p p.aj.length a.id=bM p p.aj.length y/\bM p p.aj.length (-a.id)=bM p p.aj.length y):=by
     by_cases c:bP X a.id=0
     · exact .inr (h.KQ tV hy ha Pe)
     · exact .inl (h.KQ hX hx ha c)
    rcases hs with g | g
    ·obtain ⟨e1,e2⟩:=Et _ (dm a ha).1 g.1;obtain ⟨e3,e4⟩:=Et _ (dm a ha).2 g.2;have i1:=uO (a.id∈X);have i2:=uO (-a.id∈X);omega
    ·obtain ⟨e1,e2⟩:=F9 _ (dm a ha).1 g.1;obtain ⟨e3,e4⟩:=F9 _ (dm a ha).2 g.2;have i1:=uO (a.id∈Y);have i2:=uO (-a.id∈Y);omega) (by
    obtain ⟨e1,e2⟩:=F9 y hyd rfl;rw [e1,e2,if_pos hy];omega)
   omega
  ·have:=diff hX tV zX zY hx hxd (fun a ha hne=>by
    have hs:(bM p p.aj.length a.id=bM p p.aj.length x/\bM p p.aj.length (-a.id)=bM p p.aj.length x)\/(bM p p.aj.length a.id=bM p p.aj.length y/\bM p p.aj.length (-a.id)=bM p p.aj.length y):=by
     by_cases c:bP X a.id=0
     · exact .inr (h.KQ tV hy ha Pe)
     · exact .inl (h.KQ hX hx ha c)
    rcases hs with g | g
    ·obtain ⟨e1,e2⟩:=Et _ (dm a ha).1 g.1;obtain ⟨e3,e4⟩:=Et _ (dm a ha).2 g.2;have i1:=uO (a.id∈X);have i2:=uO (-a.id∈X);omega
    ·obtain ⟨e1,e2⟩:=F9 _ (dm a ha).1 g.1;obtain ⟨e3,e4⟩:=F9 _ (dm a ha).2 g.2;have i1:=uO (a.id∈Y);have i2:=uO (-a.id∈Y);omega) (by
    obtain ⟨e1,e2⟩:=Et x hxd rfl;rw [e1,e2,if_pos hx];omega)
   omega
  ·exfalso;obtain ⟨a,ha,hne,hor⟩:=h.anx (zX.add zY) (Classical.byContradiction fun hno=>by
    have:=h.afZ (z:=fun i=>bP X i+bP Y i) (fun a ha=>Classical.byContradiction fun e=>hno ⟨a,ha,e⟩) x
    rw [h.Js] at this;obtain ⟨e1,e2⟩:=Et x hxd rfl;rw [e1,e2,if_pos hx] at this;omega)
   rw [h.Js,h.Js] at hor;rcases sup a ha hne with g | g
   ·obtain ⟨e1,e2⟩:=Et _ (dm a ha).1 g.1;obtain ⟨e3,e4⟩:=Et _ (dm a ha).2 g.2;have i1:=uO (a.id∈X);have i2:=uO (-a.id∈X);omega
   ·obtain ⟨e1,e2⟩:=F9 _ (dm a ha).1 g.1;obtain ⟨e3,e4⟩:=F9 _ (dm a ha).2 g.2;have i1:=uO (a.id∈Y);have i2:=uO (-a.id∈Y);omega
end
def tX (p:Pl) (d:Int):List Pt:=match findAr p.aj (iJ d) with
 | some a=>au p a
 | none=>[]
def lW (P:List Pt):List (Pt×Pt):=(List.range (P.length-1)).map fun k=>(P.getD k aA,P.getD (k+1) aA)
def nJ (p:Pl) (X:List Int):List (Pt×Pt):=X.flatMap fun d=>lW (tX p d)
def nK (v a b:Pt):Bool:=decide ((a.y<=v.y/\v.y<b.y/\0<tw a b v)\/(b.y<=v.y/\v.y<a.y/\tw a b v<0))
def uP (v:Pt) (s:Bool×Bool) (q:Pt×Pt):Bool×Bool:=if dQ q.1 q.2 v then (true,s.2) else if nK v q.1 q.2 then (s.1,!s.2) else s
def yw (v:Pt) (l:List (Pt×Pt)):Bool×Bool:=l.foldl (uP v) (false,false)
def encS (p:Pl) (X:List Int) (v:Pt):Bool:=(yw v (nJ p X)).2 && !(yw v (nJ p X)).1
theorem anA (v a b:Pt):nK v a b=decide (BI v a b≠0):=by
 have t:tw b a v=-tw a b v:=by unfold tw;grind
 unfold nK BI;rw [t];by_cases c1:a.y<=v.y/\v.y<b.y/\0<tw a b v
 · rw [if_pos c1,avW (.inl c1)];rfl
 ·rw [if_neg c1];by_cases c2:b.y<=v.y/\v.y<a.y/\tw a b v<0
  · rw [if_pos ⟨c2.1,c2.2.1,by omega⟩,avW (.inr c2)];rfl
  · rw [if_neg Pe,avV (by rintro (h | h);exact c1 h;exact c2 h)];rfl
theorem af4 (v:Pt):∀ (l:List (Pt×Pt)) (s:Bool×Bool),(l.foldl (uP v) s).1=(s.1 || l.any fun q=>dQ q.1 q.2 v)
 | [],s=>by simp
 | q::l,s=>by
  rw [List.foldl_cons,af4 v l,List.any_cons];unfold uP;by_cases h:dQ q.1 q.2 v=true
  · rw [if_pos h,h];simp
  ·rw [if_neg h];split<;>simp [h]
theorem af5 (v:Pt):∀ (l:List (Pt×Pt)) (s:Bool×Bool),(l.any fun q=>dQ q.1 q.2 v)=false ->
  (l.foldl (uP v) s).2=(s.2 != decide ((l.map fun q=>if nK v q.1 q.2 then (1:Int) else 0).sum % 2=1))
 | [],s,_=>by simp
 | q::l,s,h=>by
  rw [List.any_cons,Bool.or_eq_false_iff] at h;rw [List.foldl_cons,af5 v l _ h.2,List.map_cons,List.sum_cons];unfold uP;rw [if_neg (by rw [h.1];decide)];generalize (l.map fun q=>if nK v q.1 q.2 then (1:Int) else 0).sum=n
  cases hp:nK v q.1 q.2
  · rw [if_neg arC,if_neg arC,Int.zero_add]
  ·rw [if_pos rfl,if_pos rfl];by_cases hn:n % 2=1
   · rw [avW hn,avV Pe];cases s.2<;>rfl
   · rw [avV hn,avW Pe];cases s.2<;>rfl
theorem Vy (v:Pt) (l:List (Pt×Pt)):((yw v l).2 && !(yw v l).1)=(!(l.any fun q=>dQ q.1 q.2 v) && decide ((l.map fun q=>if nK v q.1 q.2 then (1:Int) else 0).sum % 2=1)):=by
 unfold yw;rw [af4]
 cases h:l.any fun q=>dQ q.1 q.2 v
 · rw [af5 v l _ h];simp
 · simp
theorem af6 {α:Type} (l:List α) (f g:α->Int) (h:∀ x∈l,f x % 2=g x % 2):(l.map f).sum % 2=(l.map g).sum % 2:=by
 induction l with
 | nil=>rfl
 | cons a l ih =>
  rw [List.map_cons,List.sum_cons,List.map_cons,List.sum_cons];have h1:=h a av3;have h2:=ih fun x hx=>h x (List.mem_cons_of_mem _ hx);omega
theorem Og {a b v:Pt} (na:aZ a=true) (nb:aZ b=true) (nv:aZ v=true):dQ a b v=true↔kN a b v:=by
 unfold dQ kN
 have:eu [a,b,v]=true:=by simp [eu,na,nb,nv]
 rw [this];simp [and_assoc]
section
variable {p:Pl} (h:Valid p)
include h
theorem Valid.KU {d:Int} (hd:d∈bf p):∃ a∈p.aj,(d=a.id\/d=-a.id)/\tX p d=au p a:=by
 obtain ⟨a,ha,e⟩:=kZ.1 hd;have hid:=(h.kC ha).1;refine ⟨a,ha,e,?_⟩;unfold tX
 have:iJ d=a.id:=by unfold iJ;rcases e with rfl | rfl<;>split<;>omega
 rw [this,h.find ha]
theorem Valid.af7 {X:List Int} (hX:∀ d∈X,d∈bf p) {q:Pt×Pt} (hq:q∈nJ p X):∃ a∈p.aj,(a.id∈X\/-a.id∈X)/\∃ k,k+1<(au p a).length/\q=((au p a).getD k aA,(au p a).getD (k+1) aA):=by
 obtain ⟨d,hd,hq⟩:=List.mem_flatMap.1 hq;obtain ⟨a,ha,e,hp⟩:=h.KU (hX d hd);rw [hp] at hq;obtain ⟨k,hk,rfl⟩:=av6.1 hq;have hk:=List.mem_range.1 hk;refine ⟨a,ha,?_,k,by omega,rfl⟩;rcases e with rfl | rfl
 · exact .inl hd
 · exact .inr hd
theorem Valid.aaS {X:List Int} {a:Ar} (ha:a∈p.aj) (hm:a.id∈X\/-a.id∈X) {k:Nat} (hk:k+1<(au p a).length):((au p a).getD k aA,(au p a).getD (k+1) aA)∈nJ p X:=by
 have hid:=(h.kC ha).1;have e:∀ d,(d=a.id\/d=-a.id)->tX p d=au p a:=fun d e=>by
  unfold tX
  have:iJ d=a.id:=by unfold iJ;rcases e with rfl | rfl<;>split<;>omega
  rw [this,h.find ha]
 rcases hm with hm | hm
 · exact List.mem_flatMap.2 ⟨_,hm,by rw [e _ (.inl rfl)];exact av6.2 ⟨k,List.mem_range.2 Pe,rfl⟩⟩
 · exact List.mem_flatMap.2 ⟨_,hm,by rw [e _ (.inr rfl)];exact av6.2 ⟨k,List.mem_range.2 Pe,rfl⟩⟩
theorem Valid.anB {X:List Int} (hX:X∈cO p) (v:Pt):((nJ p X).map fun q=>if nK v q.1 q.2 then (1:Int) else 0).sum % 2=yu p (bP X) v % 2:=by
 obtain ⟨-,h2⟩:=h.lV hX;have e1:((nJ p X).map fun q=>if nK v q.1 q.2 then (1:Int) else 0).sum=(X.map fun d=>nO (fun a b=>if nK v a b then (1:Int) else 0) (tX p d)).sum:=by
  unfold nJ;rw [List.map_flatMap,afQ];refine jF _ _ _ fun d _=>?_;unfold lW nO;rw [awc];rfl
 rw [e1,h.aaM hX];unfold yu fB;refine af6 _ _ _ fun a ha=>?_;have hid:=(h.kC ha).1;have p1:tX p a.id=au p a:=by
  unfold tX;rw [show iJ a.id=a.id by unfold iJ;split<;>omega,h.find ha]
 have p2:tX p (-a.id)=au p a:=by
  unfold tX;rw [show iJ (-a.id)=a.id by unfold iJ;split<;>omega,h.find ha]
 rw [p1,p2];have e:nO (fun a b=>if nK v a b then (1:Int) else 0) (au p a) % 2=nO (BI v) (au p a) % 2:=by
  unfold nO;refine af6 _ _ _ fun k _=>?_
  show (if nK v ((au p a).getD k aA) ((au p a).getD (k+1) aA)=true then (1:Int) else 0) % 2=_
  rw [anA];unfold BI;split
  · rfl
  · split<;>rfl
 generalize nO (fun a b=>if nK v a b then (1:Int) else 0) (au p a)=s at *;generalize nO (BI v) (au p a)=t at *;unfold bP;by_cases c1:a.id∈X<;>by_cases c2:-a.id∈X<;>simp only [c1,c2,if_true,if_false]<;>omega
theorem Valid.QT {X:List Int} (hX:X∈cO p) (hp:0<iD p X) {v:Pt} (nv:aZ v=true) :
  encS p X v=true↔(∀ q∈nJ p X,dQ q.1 q.2 v=false)/\yu p (bP X) v=1:=by
 obtain ⟨-,h2⟩:=h.lV hX;unfold encS;rw [Vy,avR,avQ,h.anB hX,Bool.not_eq_true',List.any_eq_false];constructor
 ·rintro ⟨g1,g2⟩;have g1':∀ q∈nJ p X,dQ q.1 q.2 v=false:=fun q hq=>by simpa using g1 q hq
  have hoff:BJ p (bP X) v:=fun a ha hne k hk hon=>by
   have hm:a.id∈X\/-a.id∈X:=by
    by_cases c1:a.id∈X
    · exact .inl c1
    ·by_cases c2:-a.id∈X
     · exact .inr c2
     · exact absurd avq hne
   have:=g1' _ (h.aaS ha hm hk)
   rw [(Og (h.dS ha Pe) (h.dS ha hk) nv).2 hon] at this
   cases this
  have:=h.afX (h.Ep hX) (h.afY hX hp) nv hoff
  exact ⟨g1',by omega⟩
 ·rintro ⟨g1,g2⟩;exact ⟨fun q hq=>by rw [g1 q hq];decide,by rw [g2];rfl⟩
theorem Valid.QU {X:List Int} {v:Pt} (nv:aZ v=true) (g:∀ q∈nJ p X,dQ q.1 q.2 v=false):BJ p (bP X) v:=fun a ha hne k hk hon=>by
 have hm:a.id∈X\/-a.id∈X:=by
  by_cases c1:a.id∈X
  · exact .inl c1
  ·by_cases c2:-a.id∈X
   · exact .inr c2
   · exact absurd avq hne
 have:=g _ (h.aaS ha hm hk)
 rw [(Og (h.dS ha Pe) (h.dS ha hk) nv).2 hon] at this
 cases this
theorem Valid.anC {X Y:List Int} (hX:X∈cO p) (tV:Y∈cO p) (KR:0<iD p X) (KT:0<iD p Y) {v:Pt} (nv:aZ v=true)
  (eX:encS p X v=true) (eY:encS p Y v=true) (e:iD p X=iD p Y):X=Y:=by
 obtain ⟨g1,g2⟩:=(h.QT hX KR nv).1 eX;obtain ⟨g3,g4⟩:=(h.QT tV KT nv).1 eY;exact Classical.byContradiction fun hne=>h.anz hX tV KR KT hne nv (h.QU nv g1) (h.QU nv g3) g2 g4 e
end
section
variable {α:Type} (E:α->Bool) (t:α->Int)
def wL (b:Option α) (x:α):Option α:=if (E x && (match b with | none=>true | some y=>decide (t x<t y)))=true then some x else b
def lX (l:List α):Option α:=l.foldl (wL E t) none
theorem Gf (l:List α) (x:α):lX E t (l++[x])=wL E t (lX E t l) x:=by unfold lX;rw [List.foldl_append];rfl
theorem aaT {l:List α} {k:Nat} (hk:k<l.length):lX E t (l.take (k+1))=wL E t (lX E t (l.take k)) l[k]:=by
 rw [avH hk,Gf]
theorem aaU {P:List α->Prop} (h0:P []) (h1:∀ l x,P l->P (l++[x])) (l:List α):P l:=by
 have:∀ k,k<=l.length->P (l.take k):=by
  intro k
  induction k with
  | zero=>intro _;exact h0
  | succ k ih=>intro hk;rw [avH (show k<l.length by omega)];exact h1 _ _ (ih Pe)
 have:=this l.length (awe _)
 rwa [List.take_length] at this
theorem af8 (l:List α):match lX E t l with
  | none=>∀ x∈l,E x=false
  | some x=>x∈l/\E x=true/\∀ y∈l,E y=true->t x<=t y:=by
 induction l using aaU with
 | h0=>exact fun x hx=>by cases hx
 | h1 l x ih =>
  rw [Gf];unfold wL
  cases hb:lX E t l with
  | none =>
   rw [hb] at ih;simp only [Bool.and_true];by_cases hE:E x=true
   ·rw [if_pos hE];refine ⟨by simp,hE,fun y hy KW=>?_⟩;rcases av1.1 hy with hy | hy
    · rw [ih y hy] at KW;cases KW
    · rw [avY] at hy;subst hy;exact Int.le_refl _
   ·rw [if_neg hE];intro y hy;rcases av1.1 hy with hy | hy
    · exact ih y hy
    · rw [avY] at hy;subst hy;simpa using hE
  | some z =>
   rw [hb] at ih;simp only [avR,avQ];by_cases hE:E x=true/\t x<t z
   ·rw [if_pos hE];refine ⟨by simp,hE.1,fun y hy KW=>?_⟩;rcases av1.1 hy with hy | hy
    · have:=ih.2.2 y hy KW;omega
    · rw [avY] at hy;subst hy;exact Int.le_refl _
   ·rw [if_neg hE];refine ⟨List.mem_append_left _ ih.1,ih.2.1,fun y hy KW=>?_⟩;rcases av1.1 hy with hy | hy
    · exact ih.2.2 y hy KW
    ·rw [avY] at hy;subst hy;have:¬ t y<t z:=fun h=>hE ⟨KW,h⟩
     omega
theorem aaV {l:List α}:lX E t l=none↔∀ x∈l,E x=false:=by
 have:=af8 E t l
 cases h:lX E t l with
 | none=>rw [h] at this;exact ⟨fun _=>this,fun _=>rfl⟩
 | some x =>
  rw [h] at this;refine ⟨fun h=>(by cases h),fun h0=>?_⟩;have h1:=h0 x this.1;rw [this.2.1] at h1
  cases h1
theorem aaW {l:List α} {x:α} (h:lX E t l=some x):x∈l/\E x=true/\∀ y∈l,E y=true->t x<=t y:=by
 have:=af8 E t l
 rw [h] at this;exact this
theorem anD {l m:List α} (hp:l.Perm m) (hu:∀ x∈l,∀ y∈l,E x=true->E y=true->t x=t y->x=y):lX E t l=lX E t m:=by
 cases h1:lX E t l with
 | none =>
  have:=(aaV E t).1 h1
  exact ((aaV E t).2 fun x hx=>this x (hp.symm.subset hx)).symm
 | some x =>
  obtain ⟨a1,a2,a3⟩:=aaW E t h1
  cases h2:lX E t m with
  | none =>
   have:=(aaV E t).1 h2 x (hp.subset a1)
   rw [a2] at this;cases this
  | some y =>
   obtain ⟨b1,b2,b3⟩:=aaW E t h2;have:=a3 y (hp.symm.subset b1) b2
   have:=b3 x (hp.subset a1) a2
   rw [hu x a1 y (hp.symm.subset b1) a2 b2 Pe]
end
end Go.Proofs.YtialfdomhoojiaaGreat
