import Derived.Test.YtialfdomhoojiaaGreatJ11
set_option linter.unusedSimpArgs false
set_option linter.unusedVariables false
namespace Go.Proofs.YtialfdomhoojiaaGreat
open Go.RowKit
set_option linter.unusedSectionVars false
def aU (X:List Int) (i:Int):Int:=(if i∈X then 1 else 0)-(if -i∈X then 1 else 0)
def eY (p:Pl) (X:List Int):Int:=(X.map (uh p)).sum
theorem amd (P:List Pt):jM sV P=Bg P:=by
 unfold jM Bg;generalize P.length-1=n
 induction n with
 | zero=>rfl
 | succ n ih=>rw [List.range_succ,List.map_append,List.sum_append,ih,ug];simp
theorem Oh (p:Pl) (z:Int->Int) (f:Pt->Pt->Int):cu p (fun i=>-z i) f=-cu p z f:=by
 unfold cu;rw [<- uq];exact fV _ _ _ fun a _=>by rw [Int.neg_mul]
theorem Oi {p:Pl} {z:Int->Int} {f:Pt->Pt->Int} (h0:∀ a∈p.ah,z a.id=0\/∀ k,k+1<(au p a).length->f ((au p a).getD k aB) ((au p a).getD (k+1) aB)=0):cu p z f=0:=by
 unfold cu jM;refine yA _ _ fun a ha=>?_;rcases h0 a ha with e | e
 · rw [e,Int.zero_mul]
 · rw [yA _ _ (fun k hk=>e k (by have:=List.mem_range.1 hk;omega)),Int.mul_zero]
theorem Yp {α:Type} (f:α->Int):∀ l:List α,l≠[]->∃ x∈l,∀ y∈l,f y<=f x
 | [],h=>absurd rfl h
 | [a],_=>⟨a,by simp,fun y hy=>by rw [List.mem_singleton] at hy;subst hy;exact Int.le_refl _⟩
 | a::b::l,_=>by
  obtain ⟨x,hx,hm⟩:=Yp f (b::l) (by simp);by_cases c:f a<=f x
  ·refine ⟨x,List.mem_cons_of_mem _ hx,fun y hy=>?_⟩;rcases List.mem_cons.1 hy with rfl | hy
   · exact c
   · exact hm y hy
  ·refine ⟨a,List.mem_cons_self,fun y hy=>?_⟩;rcases List.mem_cons.1 hy with rfl | hy
   · exact Int.le_refl _
   · have:=hm y hy;omega
theorem ame (p:Pl) (l:List Int) (k:Nat) (hk:k<=l.length):uj p l k=((l.take k).map (uh p)).sum:=by
 induction k with
 | zero=>simp [uj]
 | succ k ih =>
  rw [uj,ih (by omega),List.take_succ_eq_append_getElem (show k<l.length by omega),List.map_append,List.sum_append,List.getD_eq_getElem?_getD,List.getElem?_eq_getElem (show k<l.length by omega)];simp
section
variable {p:Pl} (h:Valid p)
include h
theorem Valid.amf (F:Int->Int):((aQ p).map F).sum=(p.ah.map fun a=>F a.id+F (-a.id)).sum:=by
 unfold aQ;rw [List.map_append,List.sum_append,Sv ((List.reverse_perm _).map F),List.map_map,List.map_map,rG]
 show (p.ah.map fun a=>F (-a.id)).sum+(p.ah.map fun a=>F a.id).sum=_
 omega
theorem Valid.kK {X:List Int} (hX:X∈aY p):X.Nodup/\(∀ d∈X,d∈aQ p):=by
 obtain ⟨x,hx,e,-,-⟩:=h.o7 hX;have hD:∀ x∈aQ p,fU p x∈aQ p:=fun x hx=>(h.uf hx).1;have hf:=CU hD (fun x hx y hy=>h.CV hx hy) hx;rw [e];exact ⟨hf.2.2.2.2.1,fun d hd=>Xl hD hx hd⟩
theorem Valid.Yq {X:List Int} (hX:X∈aY p) {d:Int} (hd:d∈aQ p):fU p d∈X↔d∈X:=by
 obtain ⟨x,hx,e,-,-⟩:=h.o7 hX;rw [e];exact Xj (fun x hx=>(h.uf hx).1) (fun x hx y hy=>h.CV hx hy) hx hd
theorem Valid.SG {X:List Int} (hX:X∈aY p) (F:Int->Int):(X.map F).sum=(p.ah.map fun a=>(if a.id∈X then F a.id else 0)+(if -a.id∈X then F (-a.id) else 0)).sum:=by
 obtain ⟨h1,h2⟩:=h.kK hX;rw [<- h.amf (fun d=>if d∈X then F d else 0)];have hp:((aQ p).filter (fun d=>decide (d∈X))).Perm X:=by
  refine (List.perm_ext_iff_of_nodup (h.EM.filter _) h1).2 fun d=>?_;rw [List.mem_filter,decide_eq_true_eq];exact ⟨fun h=>h.2,fun h=>⟨h2 d h,h⟩⟩
 rw [<- Sv (hp.map F)];generalize aQ p=D
 induction D with
 | nil=>rfl
 | cons d D ih =>
  rw [List.map_cons,List.sum_cons,List.filter_cons];by_cases c:d∈X
  · rw [if_pos (by simpa using c),if_pos c,List.map_cons,List.sum_cons,ih]
  · rw [if_neg (by simpa using c),if_neg c,ih];omega
theorem Valid.amg {X:List Int} (hX:X∈aY p):(X.map (fU p)).Perm X:=by
 obtain ⟨h1,h2⟩:=h.kK hX;have hn:(X.map (fU p)).Nodup:=by
  rw [List.nodup_iff_pairwise_ne,List.pairwise_map];rw [List.nodup_iff_pairwise_ne] at h1;refine List.Pairwise.imp_of_mem (fun {a b} ha hb hne e=>hne (h.CV (h2 a ha) (h2 b hb) e)) h1
 refine (List.perm_ext_iff_of_nodup hn h1).2 fun y=>?_;rw [List.mem_map];constructor
 ·rintro ⟨x,hx,rfl⟩;exact (h.Yq hX (h2 x hx)).2 hx
 ·intro hy;obtain ⟨x,hx,e,-,-⟩:=h.o7 hX;have hf:=CU (fun x hx=>(h.uf hx).1) (fun x hx y hy=>h.CV hx hy) hx;rw [e] at hy ⊢;unfold lT at hy ⊢;obtain ⟨k,hk,rfl⟩:=yx.1 hy
  cases k with
  | zero =>
   refine ⟨pw (fU p) x (oJ (fU p) (aQ p) x-1),yx.2 ⟨_,by omega,rfl⟩,?_⟩
   have:pw (fU p) x (oJ (fU p) (aQ p) x-1+1)=x:=by rw [Nat.sub_add_cancel hf.1];exact hf.2.2.1
   rw [pw] at this;exact this
  | succ k=>exact ⟨pw (fU p) x k,yx.2 ⟨k,by omega,rfl⟩,rfl⟩
theorem Valid.rJ {X:List Int} (hX:X∈aY p):fZ p (aU X):=by
 intro n _;obtain ⟨h1,h2⟩:=h.kK hX;have e1:=h.SG hX (fun d=>(if lD p (-d)=n.id then 1 else 0)-(if lD p d=n.id then 1 else 0));have e2:(X.map fun d=>((if lD p (-d)=n.id then 1 else 0)-(if lD p d=n.id then 1 else 0):Int)).sum=0:=by
  have e3:=Sv ((h.amg hX).map fun d=>if lD p d=n.id then (1:Int) else 0);rw [List.map_map] at e3;rw [fV _ _ (fun d=>(if lD p (fU p d)=n.id then (1:Int) else 0) + -(if lD p d=n.id then 1 else 0)) (fun d hd=>by rw [(h.uf (h2 d hd)).2];omega),rG,uq];have e4:(X.map fun d=>if lD p (fU p d)=n.id then (1:Int) else 0).sum=(X.map ((fun d=>if lD p d=n.id then (1:Int) else 0) ∘ fU p)).sum:=rfl;omega
 rw [e2] at e1;refine Eq.trans ?_ e1.symm;refine fV _ _ _ fun a ha=>?_;simp only [Int.neg_neg];rw [h.RJ ha,h.NR ha];unfold aU;generalize (if a.dst=n.id then (1:Int) else 0)=u;generalize (if a.fr=n.id then (1:Int) else 0)=v;by_cases c1:a.id∈X<;>by_cases c2:-a.id∈X<;>simp only [c1,c2,if_true,if_false]<;>omega
theorem Valid.amh {a:Ar} (ha:a∈p.ah):uh p a.id=Bg (au p a)/\uh p (-a.id)=-Bg (au p a):=by
 have hid:=(h.jC ha).1;unfold uh;rw [h.RI ha,h.Xo ha];simp only;rw [if_pos (by omega),if_neg (by omega)];exact ⟨rfl,rfl⟩
theorem Valid.Oj {X:List Int} (hX:X∈aY p):eY p X=cu p (aU X) sV:=by
 unfold eY cu;rw [h.SG hX];refine fV _ _ _ fun a ha=>?_;obtain ⟨e1,e2⟩:=h.amh ha;rw [amd,e1,e2];unfold aU;by_cases c1:a.id∈X<;>by_cases c2:-a.id∈X<;>simp only [c1,c2,if_true,if_false]<;>omega
theorem Valid.Yr {X:List Int} (hX:X∈aY p) {d e:Int} (hd:d∈aQ p) (he:e∈aQ p) (hs:aS p p.ah.length d=aS p p.ah.length e) :
  Hz p (aU X) d-(if d∈X then 1 else 0)=Hz p (aU X) e-(if e∈X then 1 else 0):=by
 have hz:=h.rJ hX;have hc:=h.aeh (fun d=>Hz p (aU X) d-(if d∈X then 1 else 0)) (fun d hd=>by
  show Hz p (aU X) (fU p d)-(if fU p d∈X then 1 else 0)=_
  rw [h.aec hz hd];by_cases c:d∈X
  · rw [if_pos c,if_pos ((h.Yq hX hd).2 c)]
  · rw [if_neg c,if_neg (fun e=>c ((h.Yq hX hd).1 e))]) p.ah.length (Nat.le_refl _) (fun j hj _ _=>by
  have:=h.Dc hz (List.getElem_mem hj)
  unfold aU at this ⊢
  show Hz p _ p.ah[j].id-_=Hz p _ (-p.ah[j].id)-_
  omega)
 have h1:_=_:=hc d hd;have h2:_=_:=hc e he;rw [<- h1,<- h2,hs]
theorem Valid.SH {r:Int} (hr:r∈aQ p):∃ d∈aQ p,aS p p.ah.length d=aS p p.ah.length r /\
  ∀ z,fZ p z->(∀ a∈p.ah,z a.id≠0->aS p p.ah.length a.id=aS p p.ah.length r)->Hz p z d=0:=by
 obtain ⟨q,hq,hmax⟩:=Yp (fun q:Ar×Nat=>hY ((au p q.1).getD q.2 aB)) (p.ah.flatMap fun a=>if aS p p.ah.length a.id=aS p p.ah.length r then (List.range (au p a).length).map fun k=>(a,k) else []) (by
  obtain ⟨a,ha,e⟩:=jD.1 hr;have hm:a.id∈aQ p:=jD.2 ⟨a,ha,.inl rfl⟩;have hs:aS p p.ah.length a.id=aS p p.ah.length r:=by
   rcases e with rfl | rfl
   · rfl
   · exact (h.xq hm).symm
  have hl:=fJ p a;intro e;have:(a,0)∈(p.ah.flatMap fun a=>if aS p p.ah.length a.id=aS p p.ah.length r then (List.range (au p a).length).map fun k=>(a,k) else []) :=
   List.mem_flatMap.2 ⟨a,ha,by rw [if_pos hs];exact List.mem_map.2 ⟨0,List.mem_range.2 (by omega),rfl⟩⟩
  rw [e] at this
  cases this)
 obtain ⟨a,ha,hq⟩:=List.mem_flatMap.1 hq;split at hq
 case isFalse => cases hq
 rename_i hsa;obtain ⟨k,hk,rfl⟩:=List.mem_map.1 hq;have hk:=List.mem_range.1 hk;simp only at hmax;have hl:=fJ p a;have top:∀ c∈p.ah,aS p p.ah.length c.id=aS p p.ah.length r->∀ m,m<(au p c).length->hY ((au p c).getD m aB)<=hY ((au p a).getD k aB):=by
  intro c hc hs m hm;exact hmax (c,m) (List.mem_flatMap.2 ⟨c,hc,by rw [if_pos hs];exact List.mem_map.2 ⟨m,List.mem_range.2 hm,rfl⟩⟩)
 have loc:∀ z,(∀ a∈p.ah,z a.id≠0->aS p p.ah.length a.id=aS p p.ah.length r)->∀ u,lV p z ((au p a).getD k aB) u=cu p z (xk (fun x=>ind (dV ((au p a).getD k aB) x u)) ((au p a).getD k aB)):=by
  intro z hz u;generalize (au p a).getD k aB=v at *;have e:lV p z v u=cu p z (fun a b=>oK a b v+xk (fun x=>ind (dV v x u)) v a b):=by
   unfold lV;refine NW fun c _ m _=>?_;generalize (au p c).getD m aB=x;generalize (au p c).getD (m+1) aB=y;unfold rH xk ind;by_cases h1:x=v<;>by_cases h2:y=v<;>simp only [h1,h2,true_and,false_and,if_true,if_false]<;>omega
  rw [e,H8 p z (fun a b=>oK a b v),Oi (f:=fun a b=>oK a b v) (fun c hc=>?_),Int.zero_add];by_cases h0:z c.id=0
  · exact .inl h0
  ·right;intro m hm;have t1:=top c hc (hz c hc h0) m (by omega);have t2:=top c hc (hz c hc h0) (m+1) hm;unfold oK;rw [if_neg (by omega),if_neg (by omega)]
 have hma:a.id∈aQ p:=jD.2 ⟨a,ha,.inl rfl⟩;have ami:-a.id∈aQ p:=jD.2 ⟨a,ha,.inr rfl⟩;have node:∀ n∈p.nodes,(au p a).getD k aB=n.pt->(a.id∈dB p n.id\/-a.id∈dB p n.id)->∃ d∈aQ p,aS p p.ah.length d=aS p p.ah.length r /\
   ∀ z,fZ p z->(∀ a∈p.ah,z a.id≠0->aS p p.ah.length a.id=aS p p.ah.length r)->Hz p z d=0:=by
  intro n hn ev hor;rw [ev] at loc;have hpos:0<(dB p n.id).length:=by
   rcases hor with e | e<;>exact List.length_pos_of_mem e
  have Yt:(dB p n.id)[0]∈dB p n.id:=List.getElem_mem hpos;have h0d:=(h.oV hn).subset Yt;obtain ⟨hdd,hst⟩:=h.Hw h0d;refine ⟨-(dB p n.id)[0],Bf hdd,?_,fun z hz hzs=>?_⟩
  ·rw [h.xq hdd];rcases hor with e | e
   · rw [h.XU hn Yt e];exact hsa
   · rw [h.XU hn Yt e,h.xq hma];exact hsa
  ·have hr0:lV p z n.pt (dJ p (dB p n.id)[0])=0:=by
    rw [loc z hzs,h.XJ z _ hn];refine yA _ _ fun x hx=>?_;obtain ⟨j,hj,rfl⟩:=List.mem_iff_getElem.1 ((h.oV hn).symm.subset hx)
    have:ind (dV n.pt (dJ p (dB p n.id)[j]) (dJ p (dB p n.id)[0]))=0:=by
     by_cases hj0:j=0
     · subst hj0;exact C9 _ _
     · exact if_neg (H9 (h.aea hn (i:=0) (j:=j) (by omega) hj))
    rw [this,Int.mul_zero]
   have j:=h.Ku hz hn h0d;have j2:=h.aeb hz hdd;have e:Hz p z (dB p n.id)[0]=qP p z n.pt (dJ p (dB p n.id)[0]):=by
    unfold Hz;rw [hst,h.sound.sN hn]
   omega
 by_cases h0:k=0
 ·subst h0;obtain ⟨n,hn,e1,e2⟩:=h.sound.yw ha;exact node n hn (by rw [zy,e2]) (.inl ((h.oV hn).symm.subset (wZ.2 ⟨a,ha,.inl ⟨rfl,e1.symm⟩⟩)))
 by_cases h1:k=(au p a).length-1
 ·obtain ⟨n,hn,e1,e2⟩:=h.sound.zu ha;exact node n hn (by rw [h1,zA,e2]) (.inr ((h.oV hn).symm.subset (wZ.2 ⟨a,ha,.inr ⟨rfl,e1.symm⟩⟩)))
 ·obtain ⟨m,rfl⟩:∃ m,k=m+1:=⟨k-1,by omega⟩;have hin:m+2<(au p a).length:=by omega
  have at_:=fun z φ=>h.RY z φ ha (j:=m+1) (by omega) hin;rcases h.XM ha hin with c | c
  ·refine ⟨a.id,hma,hsa,fun z hz hzs=>?_⟩;rw [<- (h.Og hz ha (m:=m) (by omega)).2,loc z hzs,at_ z,show m+1-1=m by omega,show m+1+1=m+2 by omega,C9];rw [show ind (dV ((au p a).getD (m+1) aB) ((au p a).getD (m+2) aB) ((au p a).getD m aB))=0 from if_neg (H9 c),Int.sub_self,Int.mul_zero]
  ·refine ⟨-a.id,ami,by rw [h.xq hma];exact hsa,fun z hz hzs=>?_⟩;rw [<- (h.Og hz ha (m:=m+1) (by omega)).1,loc z hzs,at_ z,show m+1-1=m by omega,show m+1+1=m+2 by omega,C9];rw [show ind (dV ((au p a).getD (m+1) aB) ((au p a).getD m aB) ((au p a).getD (m+2) aB))=0 from if_neg (H9 c),Int.sub_self,Int.mul_zero]
theorem Valid.yB {X:List Int} (hX:X∈aY p) {d e:Int} (hd:d∈X) (he:e∈X):aS p p.ah.length d=aS p p.ah.length e:=by
 have h2:=(h.kK hX).2;refine h.Sr (k:=0) (Nat.zero_le _) (Nat.le_refl _) ?_
 show qp (aY p) d=qp (aY p) e
 rw [h.head_eq hX (h2 d hd) hd,h.head_eq hX (h2 e he) he]
theorem Valid.Yu {X:List Int} (hX:X∈aY p) {r d0:Int} (hr:r∈X) (hd:d0∈aQ p) (hs:aS p p.ah.length d0=aS p p.ah.length r)
  (h0:∀ z,fZ p z->(∀ a∈p.ah,z a.id≠0->aS p p.ah.length a.id=aS p p.ah.length r)->Hz p z d0=0):0<eY p X↔d0∉X:=by
 have hz:=h.rJ hX;have h2:=(h.kK hX).2;have Ol:∀ a∈p.ah,aU X a.id≠0->aS p p.ah.length a.id=aS p p.ah.length r:=by
  intro a ha hne;have hma:a.id∈aQ p:=jD.2 ⟨a,ha,.inl rfl⟩;by_cases c1:a.id∈X
  · exact h.yB hX c1 hr
  ·by_cases c2:-a.id∈X
   · rw [<- h.xq hma];exact h.yB hX c2 hr
   · exact absurd (by unfold aU;rw [if_neg c1,if_neg c2];rfl) hne
 have hH:=h0 _ hz Ol;have cl:∀ d∈aQ p,aS p p.ah.length d=aS p p.ah.length r->Hz p (aU X) d=(if d∈X then 1 else 0)-(if d0∈X then 1 else 0):=by
  intro d hd' hsd;have:=h.Yr hX hd' hd (by rw [hsd,hs])
  omega
 have two:∀ a∈p.ah,aU X a.id≠0->Hz p (aU X) a.id=(if a.id∈X then 1 else 0)-(if d0∈X then 1 else 0)/\Hz p (aU X) (-a.id)=(if -a.id∈X then 1 else 0)-(if d0∈X then 1 else 0):=by
  intro a ha hne;have hma:a.id∈aQ p:=jD.2 ⟨a,ha,.inl rfl⟩;exact ⟨cl _ hma (Ol a ha hne),cl _ (Bf hma) (by rw [h.xq hma];exact Ol a ha hne)⟩
 rw [h.Oj hX];by_cases c:d0∈X
 ·refine ⟨fun hp=>?_,fun hn=>absurd c hn⟩;exfalso;have hneg:fZ p (fun i=>-aU X i):=fun n hn=>by
   have:=hz n hn
   show (p.ah.map fun a=>-aU X a.id*((if a.dst=n.id then 1 else 0)-(if a.fr=n.id then 1 else 0))).sum=0
   refine (fV _ _ (fun a:Ar=>-(aU X a.id*((if a.dst=n.id then (1:Int) else 0)-(if a.fr=n.id then 1 else 0)))) (fun a _=>Int.neg_mul _ _)).trans ?_;rw [uq,this];rfl
  have hN:∀ d,Hz p (fun i=>-aU X i) d=-Hz p (aU X) d:=fun d=>Oh _ _ _;have:=(h.SE hneg (fun a ha hne=>by
   have hne':aU X a.id≠0:=fun e=>hne (by show -_=(0:Int);rw [e];rfl);obtain ⟨t1,t2⟩:=two a ha hne';rw [hN,hN,t1,t2,if_pos c];unfold aU at hne';by_cases c1:a.id∈X<;>by_cases c2:-a.id∈X<;>simp only [c1,c2,if_true,if_false] at hne' ⊢ <;> omega)).1
  rw [Oh] at this;omega
 ·refine ⟨fun _=>c,fun _=>?_⟩;refine (h.SE hz (fun a ha hne=>by
   obtain ⟨t1,t2⟩:=two a ha hne;rw [t1,t2,if_neg c];unfold aU at hne;by_cases c1:a.id∈X<;>by_cases c2:-a.id∈X<;>simp only [c1,c2,if_true,if_false] at hne ⊢ <;> omega)).2 ?_
  apply Classical.byContradiction;intro hno;have h1:=cl r (h2 r hr) rfl;rw [if_pos hr,if_neg c] at h1
  have:Hz p (aU X) r=0:=Oi fun a ha=>.inl (Classical.byContradiction fun e=>hno ⟨a,ha,e⟩)
  omega
theorem Valid.amj:(((aY p).filter (fun X=>decide (0<eY p X))).length:Int)=p.ah.length-p.nodes.length+EN p:=by
 have hlb:=h.aeg p.ah.length (Nat.le_refl _);have hcnt:=h.alQ p.ah.length (Nat.le_refl _);obtain ⟨φ,hφ⟩:∃ φ:Int->Int,∀ r∈aQ p,φ r∈aQ p/\aS p p.ah.length (φ r)=aS p p.ah.length r /\
   ∀ z,fZ p z->(∀ a∈p.ah,z a.id≠0->aS p p.ah.length a.id=aS p p.ah.length r)->Hz p z (φ r)=0:=by
  refine ⟨fun r=>if hr:r∈aQ p then Classical.choose (h.SH hr) else 0,fun r hr=>?_⟩;simp only [dif_pos hr];exact Classical.choose_spec (h.SH hr)
 have sgn:∀ X∈aY p,0<eY p X↔φ (aS p p.ah.length (X.headD 0))∉X:=by
  intro X hX;obtain ⟨x,hx,-,e2,e3⟩:=h.o7 hX;rw [e2];obtain ⟨g1,g2,g3⟩:=hφ _ (hlb.mem x hx);rw [hlb.idem x hx] at g2 g3;exact h.Yu hX e3 g1 g2 g3
 have hnp:((aY p).filter (fun X=>!decide (0<eY p X))).length=EP (aQ p) (aS p p.ah.length):=by
  have hnd:=h.iJ.nodup;rw [List.nodup_iff_pairwise_ne,List.pairwise_flatten] at hnd;have inn:∀ X∈(aY p).filter (fun X=>!decide (0<eY p X)),X∈aY p/\φ (aS p p.ah.length (X.headD 0))∈X:=by
   intro X hX;rw [List.mem_filter] at hX;refine ⟨hX.1,Classical.byContradiction fun hc=>?_⟩;have:=(sgn X hX.1).2 hc
   simp [this] at hX
  apply Nat.le_antisymm
  ·have h1:(((aY p).filter (fun X=>!decide (0<eY p X))).map (fun X=>aS p p.ah.length (X.headD 0))).Nodup:=by
    rw [List.nodup_iff_pairwise_ne,List.pairwise_map];refine List.Pairwise.imp_of_mem (fun {X Y} hX hY hd e=>?_) (hnd.2.filter _);have:=(inn Y hY).2
    rw [<- e] at this;exact hd _ (inn X hX).2 _ this rfl
   have:=CQ h1 (m:=(aQ p).filter (fun x=>decide (aS p p.ah.length x=x))) (fun y hy=>by
    obtain ⟨X,hX,rfl⟩:=List.mem_map.1 hy;obtain ⟨x,hx,-,e2,-⟩:=h.o7 (inn X hX).1;rw [e2,List.mem_filter,decide_eq_true_eq];exact ⟨hlb.mem x hx,hlb.idem x hx⟩)
   rw [List.length_map] at this;exact this
  ·have rt:∀ r∈(aQ p).filter (fun x=>decide (aS p p.ah.length x=x)),r∈aQ p/\aS p p.ah.length r=r:=by
    intro r hr;rw [List.mem_filter,decide_eq_true_eq] at hr;exact hr
   have h1:(((aQ p).filter (fun x=>decide (aS p p.ah.length x=x))).map (fun r=>qp (aY p) (φ r))).Nodup:=by
    rw [List.nodup_iff_pairwise_ne,List.pairwise_map];refine List.Pairwise.imp_of_mem (fun {r s} hr hs hne e=>?_) (h.EM.filter _);have:=h.Sr (k:=0) (Nat.zero_le _) (Nat.le_refl p.ah.length) e
    rw [(hφ r (rt r hr).1).2.1,(hφ s (rt s hs).1).2.1,(rt r hr).2,(rt s hs).2] at this;exact hne this
   have:=CQ h1 (m:=((aY p).filter (fun X=>!decide (0<eY p X))).map (fun X=>X.headD 0)) (fun y hy=>by
    obtain ⟨r,hr,rfl⟩:=List.mem_map.1 hy;obtain ⟨g1,g2,-⟩:=hφ r (rt r hr).1;obtain ⟨X,hX,hm,e⟩:=h.ER g1;obtain ⟨x,hx,-,e2,e3⟩:=h.o7 hX;refine List.mem_map.2 ⟨X,List.mem_filter.2 ⟨hX,?_⟩,e.symm⟩;have:¬ 0<eY p X:=fun hp=>by
     refine (sgn X hX).1 hp ?_;rw [e2,h.yB hX e3 hm,g2,(rt r hr).2];exact hm
    simpa using this)
   rw [List.length_map,List.length_map] at this;exact this
 have hsum:((aY p).filter (fun X=>decide (0<eY p X))).length+((aY p).filter (fun X=>!decide (0<eY p X))).length=(aY p).length:=by
  generalize aY p=L
  induction L with
  | nil=>rfl
  | cons X L ih =>
   rw [List.filter_cons,List.filter_cons];by_cases c:0<eY p X
   · simp [c];omega
   · simp [c];omega
 unfold EN;omega
end
set_option linter.unusedSectionVars false
def vw (v a b:Pt):Int:=if a.y<=v.y/\v.y<b.y/\0<tw a b v then 1 else if b.y<=v.y/\v.y<a.y/\0<tw b a v then -1 else 0
def yC (p:Pl) (z:Int->Int) (v:Pt):Int:=cu p z (vw v)
def jO (a b v:Pt):Prop:=tw a b v=0/\min a.x b.x<=v.x/\v.x<=max a.x b.x/\min a.y b.y<=v.y/\v.y<=max a.y b.y
instance (a b v:Pt):Decidable (jO a b v):=by unfold jO;infer_instance
def Dh (p:Pl) (z:Int->Int) (v:Pt):Prop:=∀ a∈p.ah,z a.id≠0->∀ k,k+1<(au p a).length->¬ jO ((au p a).getD k aB) ((au p a).getD (k+1) aB) v
theorem amk (a b v:Pt):xN a b (2*hY v)-2*v.x*(hY b-hY a)=16777216*tw a b v:=by unfold xN tw hY;grind
theorem aew {D:Int} (hD:0<D) {a b v:Pt} (hab:hY a<hY b) (hd:hY b-hY a∣D):2*D*v.x<xE D a b (2*hY v)↔0<tw a b v:=by
 obtain ⟨q,hq⟩:=hd;unfold xE;have e1:D / (hY b-hY a)=q:=by rw [hq];exact Int.mul_ediv_cancel_left _ (by omega)
 have hx:=amk a b v;have hn:0<hY b-hY a:=by omega
 rw [e1];generalize hY b-hY a=n at *;generalize xN a b (2*hY v)=X at *;have hqp:0<q:=by
  rcases Int.lt_trichotomy q 0 with g | g | g
  · have:=Int.mul_neg_of_pos_of_neg hn g;omega
  · subst g;rw [Int.mul_zero] at hq;omega
  · exact g
 have k:X*q-2*D*v.x=(X-2*v.x*n)*q:=by rw [hq];grind
 rw [hx] at k;have s1:0<tw a b v->0<16777216*tw a b v*q:=fun h=>Int.mul_pos (by omega) hqp;have s2:tw a b v<=0->16777216*tw a b v*q<=0:=fun h=>Int.mul_nonpos_of_nonpos_of_nonneg (by omega) (by omega);generalize tw a b v=t at *;constructor<;>intro<;>omega
theorem SI (p:Pl) (z u:Int->Int) (f:Pt->Pt->Int):cu p (fun i=>z i+u i) f=cu p z f+cu p u f:=by
 unfold cu;rw [<- rG];exact fV _ _ _ fun a _=>by rw [Int.add_mul]
theorem fZ.add {p:Pl} {z u:Int->Int} (h1:fZ p z) (h2:fZ p u):fZ p (fun i=>z i+u i):=fun n hn=>by
 have e1:=h1 n hn;have e2:=h2 n hn;refine (fV _ _ (fun a:Ar=>z a.id*((if a.dst=n.id then (1:Int) else 0)-(if a.fr=n.id then 1 else 0))+u a.id*((if a.dst=n.id then (1:Int) else 0)-(if a.fr=n.id then 1 else 0))) (fun a _=>Int.add_mul _ _ _)).trans ?_;rw [rG,e1,e2];rfl
theorem fZ.neg {p:Pl} {z:Int->Int} (h1:fZ p z):fZ p (fun i=>-z i):=fun n hn=>by
 have e1:=h1 n hn;refine (fV _ _ (fun a:Ar=>-(z a.id*((if a.dst=n.id then (1:Int) else 0)-(if a.fr=n.id then 1 else 0)))) (fun a _=>Int.neg_mul _ _)).trans ?_;rw [uq,e1];rfl
theorem aml {D:Int} (hD:0<D) {a b v:Pt} (na:aW a=true) (nb:aW b=true) (nv:aW v=true) (hne:a≠b) (hd:hY b-hY a∣D) (hav:a≠v) (hbv:b≠v) (hoff:¬ jO a b v) :
  vw v a b=(if 2*D*v.x<xE D a b (2*hY v) then dZ (2*hY v) a b else 0)+((if a.y=v.y/\v.x<a.x then 1 else 0)-(if b.y=v.y/\v.x<b.x then 1 else 0)):=by
 have key:∀ {a b:Pt},aW a=true->aW b=true->hY a<hY b->hY b-hY a∣D->a≠v->b≠v->¬ jO a b v ->
   vw v a b=(if 2*D*v.x<xE D a b (2*hY v) then dZ (2*hY v) a b else 0)+((if a.y=v.y/\v.x<a.x then 1 else 0)-(if b.y=v.y/\v.x<b.x then 1 else 0)):=by
  intro a b na nb hab hd hav hbv hoff;have hx:=aew hD (v:=v) hab hd;simp only [hx];rw [wL] at na nb nv;have ha:¬ (a.x=v.x/\a.y=v.y):=fun e=>hav (Pt.ext_iff'.2 e);have hb:¬ (b.x=v.x/\b.y=v.y):=fun e=>hbv (Pt.ext_iff'.2 e);have tba:tw b a v=-tw a b v:=by unfold tw;grind
  unfold vw dZ jO at *;rw [tba];unfold hY at *;have s1:a.y=v.y->tw a b v=(b.y-a.y)*(a.x-v.x):=fun e=>by unfold tw;rw [e];grind
  have s2:b.y=v.y->tw a b v=(b.y-a.y)*(b.x-v.x):=fun e=>by unfold tw;rw [e];grind
  have p1:∀ {x y:Int},0<x->0<y->0<x*y:=fun h1 h2=>Int.mul_pos h1 h2;have p2:∀ {x y:Int},0<x->y<0->x*y<0:=fun h1 h2=>Int.mul_neg_of_pos_of_neg h1 h2;generalize tw a b v=t at *;by_cases hy:a.y=b.y
  ·have hx2:a.x<b.x:=by omega
   have e1:¬ (a.y<=v.y/\v.y<b.y/\0<t):=by omega
   have e2:¬ (b.y<=v.y/\v.y<a.y/\0 < -t):=by omega
   rw [if_neg e1,if_neg e2];by_cases hv:a.y=v.y
   ·have t0:t=0:=by rw [s1 hv,hy,Int.sub_self,Int.zero_mul]
    rw [if_neg (show ¬ 0<t by omega)];by_cases c:v.x<a.x
    · rw [if_pos ⟨hv,c⟩,if_pos (by omega)];rfl
    ·have:¬ v.x<b.x:=fun c2=>hoff ⟨t0,by omega⟩
     rw [if_neg (by omega),if_neg (by omega)];rfl
   ·rw [if_neg (show ¬ (a.y=v.y/\v.x<a.x) by omega),if_neg (show ¬ (b.y=v.y/\v.x<b.x) by omega)];split
    ·by_cases c:v.y<a.y
     · rw [if_pos (by omega),if_pos (by omega)];rfl
     · rw [if_neg (by omega),if_neg (by omega)];rfl
    · rfl
  ·have hy:a.y<b.y:=by omega
   rw [if_neg (show ¬ (b.y<=v.y/\v.y<a.y/\0 < -t) by omega)];by_cases c1:a.y=v.y
   ·have e:=s1 c1;rw [if_neg (show ¬ (b.y=v.y/\v.x<b.x) by omega)];by_cases c2:v.x<a.x
    ·have:=p1 (show 0<b.y-a.y by omega) (show 0<a.x-v.x by omega)
     rw [if_pos (show a.y<=v.y/\v.y<b.y/\0<t by omega),if_pos (show 0<t by omega),if_pos (by omega),if_pos (by omega),if_pos ⟨c1,c2⟩];rfl
    ·have:=p2 (show 0<b.y-a.y by omega) (show a.x-v.x<0 by omega)
     rw [if_neg (show ¬ (a.y<=v.y/\v.y<b.y/\0<t) by omega),if_neg (show ¬ 0<t by omega),if_neg (by omega)];rfl
   ·rw [if_neg (show ¬ (a.y=v.y/\v.x<a.x) by omega)];by_cases c2:b.y=v.y
    ·have e:=s2 c2;rw [if_neg (show ¬ (a.y<=v.y/\v.y<b.y/\0<t) by omega)];by_cases c3:v.x<b.x
     ·have:=p1 (show 0<b.y-a.y by omega) (show 0<b.x-v.x by omega)
      rw [if_pos (show 0<t by omega),if_pos (by omega),if_neg (by omega),if_pos ⟨c2,c3⟩];rfl
     ·have:=p2 (show 0<b.y-a.y by omega) (show b.x-v.x<0 by omega)
      rw [if_neg (show ¬ 0<t by omega),if_neg (by omega)];rfl
    ·rw [if_neg (show ¬ (b.y=v.y/\v.x<b.x) by omega)];by_cases c3:0<t
     ·rw [if_pos c3];by_cases c4:a.y<v.y/\v.y<b.y
      · rw [if_pos (by omega),if_pos (by omega),if_neg (by omega)];rfl
      ·rw [if_neg (by omega)];by_cases c5:v.y<a.y
       · rw [if_pos (by omega),if_pos (by omega)];rfl
       · rw [if_neg (by omega),if_neg (by omega)];rfl
     · rw [if_neg (by omega),if_neg c3];rfl
 rcases Int.lt_trichotomy (hY a) (hY b) with c | c | c
 · exact key na nb c hd hav hbv hoff
 · exact absurd (nT na nb c) hne
 ·have amm:¬ jO b a v:=fun e=>hoff (by
   obtain ⟨e1,e2⟩:=e;refine ⟨?_,by rw [Int.min_comm,Int.max_comm a.x,Int.min_comm a.y,Int.max_comm a.y];exact e2⟩
   have:tw b a v=-tw a b v:=by unfold tw;grind
   omega)
  have e:=key nb na c (by rw [show hY a-hY b=-(hY b-hY a) by omega];exact Int.neg_dvd.2 hd) hbv hav amm;have e1:vw v b a=-vw v a b:=by
   unfold vw;by_cases c1:b.y<=v.y/\v.y<a.y/\0<tw b a v
   · rw [if_pos c1,if_neg (by omega),if_pos c1];rfl
   ·by_cases c2:a.y<=v.y/\v.y<b.y/\0<tw a b v
    · rw [if_neg c1,if_pos c2,if_pos c2]
    · rw [if_neg c1,if_neg c2,if_neg c2,if_neg c1];rfl
  have e2:dZ (2*hY v) b a=-dZ (2*hY v) a b:=by unfold dZ;omega
  rw [e1,EU,e2] at e;split at e<;>rename_i c<;>first | rw [if_pos c];omega | rw [if_neg c];omega
section
variable {p:Pl} (h:Valid p)
include h
theorem Valid.SK:∃ D:Int,0<D/\∀ a∈p.ah,∀ k,k+1<(au p a).length->hY ((au p a).getD (k+1) aB)-hY ((au p a).getD k aB)∣D:=by
 obtain ⟨D,h1,h2⟩:=Ym (p.ah.flatMap fun a=>(List.range ((au p a).length-1)).map fun k=>hY ((au p a).getD (k+1) aB)-hY ((au p a).getD k aB)) (fun x hx=>by
  obtain ⟨a,ha,hx⟩:=List.mem_flatMap.1 hx;obtain ⟨k,hk,rfl⟩:=List.mem_map.1 hx;have hk:=List.mem_range.1 hk;intro e;exact (h.distinct ha (k:=k) (by omega)).1 (nT (h.bV ha (by omega)) (h.bV ha (by omega)) (by omega)))
 exact ⟨D,h1,fun a ha k hk=>h2 _ (List.mem_flatMap.2 ⟨a,ha,List.mem_map.2 ⟨k,List.mem_range.2 (by omega),rfl⟩⟩)⟩
theorem Valid.EW {z:Int->Int} {v:Pt} (hoff:Dh p z v) {a:Ar} (ha:a∈p.ah) (hza:z a.id≠0) {k:Nat} (hk:k<(au p a).length):(au p a).getD k aB≠v:=by
 have hl:=fJ p a;intro e;by_cases h1:k+1<(au p a).length
 ·refine hoff a ha hza k h1 ?_;rw [e];exact ⟨CX _ _,by omega⟩
 ·obtain ⟨m,rfl⟩:∃ m,k=m+1:=⟨k-1,by omega⟩;refine hoff a ha hza m (by omega) ?_;rw [e];exact ⟨CZ _ _,by omega⟩
theorem Valid.amn {z:Int->Int} {v:Pt} (nv:aW v=true) (hoff:Dh p z v):xA p z (2*hY v):=fun a ha hza k hk e =>
 h.EW hoff ha hza hk (nT (h.bV ha hk) nv (by omega))
theorem Valid.aex {z:Int->Int} (hz:fZ p z) {D:Int} (hD:0<D) (hd:∀ a∈p.ah,∀ k,k+1<(au p a).length->hY ((au p a).getD (k+1) aB)-hY ((au p a).getD k aB)∣D)
  {v:Pt} (nv:aW v=true) (hoff:Dh p z v):yC p z v=mV (oN p z D (2*hY v)) (2*D*v.x):=by
 have t:=h.Kr hz (fun u=>-(if u.y=v.y/\v.x<u.x then 1 else 0));have bS:mV (oN p z D (2*hY v)) (2*D*v.x)=cu p z (fun a b=>if 2*D*v.x<xE D a b (2*hY v) then dZ (2*hY v) a b else 0) :=
  Ky p z D (2*hY v) (fun x s=>if 2*D*v.x<x then s else 0) (fun x c s=>by split<;>simp)
 rw [bS];have e:yC p z v=cu p z (fun a b=>(if 2*D*v.x<xE D a b (2*hY v) then dZ (2*hY v) a b else 0)+(-(if b.y=v.y/\v.x<b.x then 1 else 0) - -(if a.y=v.y/\v.x<a.x then 1 else 0))):=by
  refine SA fun a ha hza k hk=>?_;have:=aml hD (h.bV ha (k:=k) (by omega)) (h.bV ha hk) nv (h.distinct ha hk).1 (hd a ha k hk) (h.EW hoff ha hza (k:=k) (by omega)) (h.EW hoff ha hza hk) (hoff a ha hza k hk)
  omega
 rw [e,H8 p z (fun a b=>if 2*D*v.x<xE D a b (2*hY v) then dZ (2*hY v) a b else 0) (fun a b=>-(if b.y=v.y/\v.x<b.x then 1 else 0) - -(if a.y=v.y/\v.x<a.x then 1 else 0)),t,Int.add_zero]
theorem Valid.aey {z:Int->Int} (hz:fZ p z) (hw:∀ a∈p.ah,z a.id≠0->(Hz p z (-a.id)=0/\Hz p z a.id=1)\/(Hz p z (-a.id)=1/\Hz p z a.id=0))
  {D:Int} (hD:0<D) (hd:∀ a∈p.ah,∀ k,k+1<(au p a).length->hY ((au p a).getD (k+1) aB)-hY ((au p a).getD k aB)∣D) {τ:Int} (hτ:xA p z τ) (t:Int) :
  mV (oN p z D τ) t=0\/mV (oN p z D τ) t=1:=by
 obtain ⟨B,hB⟩:=Yj (oN p z D τ);exact Yi (h.aev hz hw hD hd hτ) (B+t.natAbs) t (fun v hv _=>by have:=hB v hv;omega)
theorem Valid.amo {z:Int->Int} (hz:fZ p z) (hw:∀ a∈p.ah,z a.id≠0->(Hz p z (-a.id)=0/\Hz p z a.id=1)\/(Hz p z (-a.id)=1/\Hz p z a.id=0))
  {v:Pt} (nv:aW v=true) (hoff:Dh p z v):yC p z v=0\/yC p z v=1:=by
 obtain ⟨D,hD,hd⟩:=h.SK;rw [h.aex hz hD hd nv hoff];exact h.aey hz hw hD hd (h.amn nv hoff) _
theorem Valid.amq {z:Int->Int} (hz:fZ p z) (hw:∀ a∈p.ah,z a.id≠0->(Hz p z (-a.id)=0/\Hz p z a.id=1)\/(Hz p z (-a.id)=1/\Hz p z a.id=0))
  {e:Int} (he:e∈aQ p):Hz p z e=0\/Hz p z e=1:=by
 obtain ⟨a,ha,hor⟩:=jD.1 he;by_cases h0:z a.id=0
 ·obtain ⟨D,hD,hd⟩:=h.SK;have hl:=fJ p a;have hp:=h.Dc hz ha;have hk:0+1<(au p a).length:=by omega
  have hne:hY ((au p a).getD 0 aB)≠hY ((au p a).getD (0+1) aB):=fun e=>(h.distinct ha hk).1 (nT (h.bV ha (by omega)) (h.bV ha hk) e);have b:=(h.Yn hz hD hd (xA.odd z (τ:=2*min (hY ((au p a).getD 0 aB)) (hY ((au p a).getD (0+1) aB))+1) (by omega)) ha hk (by omega)).1;have c:=h.aey hz hw hD hd (xA.odd z (τ:=2*min (hY ((au p a).getD 0 aB)) (hY ((au p a).getD (0+1) aB))+1) (by omega)) (xE D ((au p a).getD 0 aB) ((au p a).getD (0+1) aB) (2*min (hY ((au p a).getD 0 aB)) (hY ((au p a).getD (0+1) aB))+1));rw [b] at c;rcases hor with rfl | rfl<;>split at c<;>omega
 ·have:=hw a ha h0
  rcases hor with rfl | rfl<;>omega
theorem Valid.Di {X:List Int} (hX:X∈aY p) (hp:0<eY p X) {r d:Int} (hr:r∈X) (hd:d∈aQ p) (hs:aS p p.ah.length d=aS p p.ah.length r):Hz p (aU X) d=if d∈X then 1 else 0:=by
 have h2:=(h.kK hX).2;obtain ⟨d0,g1,g2,g3⟩:=h.SH (h2 r hr);have hz:=h.rJ hX;have hn:=(h.Yu hX hr g1 g2 g3).1 hp;have Ol:∀ a∈p.ah,aU X a.id≠0->aS p p.ah.length a.id=aS p p.ah.length r:=by
  intro a ha hne;have hma:a.id∈aQ p:=jD.2 ⟨a,ha,.inl rfl⟩;by_cases c1:a.id∈X
  · exact h.yB hX c1 hr
  ·by_cases c2:-a.id∈X
   · rw [<- h.xq hma];exact h.yB hX c2 hr
   · exact absurd (by unfold aU;rw [if_neg c1,if_neg c2];rfl) hne
 have h0:=g3 _ hz Ol;have:=h.Yr hX hd g1 (by rw [hs,g2])
 rw [h0,if_neg hn] at this;omega
theorem Valid.Yv {X:List Int} (hX:X∈aY p) {r:Int} (hr:r∈X) {a:Ar} (ha:a∈p.ah) (hne:aU X a.id≠0):aS p p.ah.length a.id=aS p p.ah.length r/\aS p p.ah.length (-a.id)=aS p p.ah.length r:=by
 have hma:a.id∈aQ p:=jD.2 ⟨a,ha,.inl rfl⟩;have e:=h.xq hma;by_cases c1:a.id∈X
 ·have:=h.yB hX c1 hr
  exact ⟨this,by rw [e];exact this⟩
 ·by_cases c2:-a.id∈X
  ·have:=h.yB hX c2 hr
   exact ⟨by rw [<- e];exact this,this⟩
  · exact absurd (by unfold aU;rw [if_neg c1,if_neg c2];rfl) hne
theorem Valid.Yw {X:List Int} (hX:X∈aY p) (hp:0<eY p X):∀ a∈p.ah,aU X a.id≠0->(Hz p (aU X) (-a.id)=0/\Hz p (aU X) a.id=1)\/(Hz p (aU X) (-a.id)=1/\Hz p (aU X) a.id=0):=by
 intro a ha hne;obtain ⟨r,-,-,-,hr⟩:=h.o7 hX;have hma:a.id∈aQ p:=jD.2 ⟨a,ha,.inl rfl⟩;obtain ⟨s1,s2⟩:=h.Yv hX hr ha hne;rw [h.Di hX hp hr hma s1,h.Di hX hp hr (Bf hma) s2];unfold aU at hne;by_cases c1:a.id∈X<;>by_cases c2:-a.id∈X<;>simp [c1,c2] at hne ⊢
theorem Valid.Yx {X:List Int} (hX:X∈aY p) (hp:0<eY p X) {r e:Int} (hr:r∈X) (he:e∈aQ p) (hs:aS p p.ah.length e≠aS p p.ah.length r) :
  (Hz p (aU X) e=0\/Hz p (aU X) e=1)/\∀ d∈aQ p,aS p p.ah.length d=aS p p.ah.length e->Hz p (aU X) d=Hz p (aU X) e:=by
 refine ⟨h.amq (h.rJ hX) (h.Yw hX hp) he,fun d hd hde=>?_⟩;have:=h.Yr hX hd he hde
 have n1:e∉X:=fun c=>hs (h.yB hX c hr);have n2:d∉X:=fun c=>hs (by rw [<- hde];exact h.yB hX c hr);rw [if_neg n1,if_neg n2] at this;omega
theorem Valid.xB (z u:Int->Int) (d:Int):Hz p (fun i=>z i+u i) d=Hz p z d+Hz p u d:=SI p z u _
theorem Valid.Kz (z:Int->Int) (d:Int):Hz p (fun i=>-z i) d=-Hz p z d:=Oh p z _
theorem Valid.Yy {z:Int->Int} (h0:∀ a∈p.ah,z a.id=0) (d:Int):Hz p z d=0:=Oi fun a ha=>.inl (h0 a ha)
theorem Valid.amr {z:Int->Int} (hz:fZ p z) (hne:∃ a∈p.ah,z a.id≠0):∃ a∈p.ah,z a.id≠0/\(Hz p z a.id=0\/Hz p z (-a.id)=0):=by
 obtain ⟨a,ha,hza⟩:=hne;obtain ⟨D,hD,hd⟩:=h.SK;have hl:=fJ p a;have hk:0+1<(au p a).length:=by omega
 have hnq:hY ((au p a).getD 0 aB)≠hY ((au p a).getD (0+1) aB):=fun e=>(h.distinct ha hk).1 (nT (h.bV ha (by omega)) (h.bV ha hk) e);obtain ⟨τ,hτ⟩:∃ τ,τ=2*min (hY ((au p a).getD 0 aB)) (hY ((au p a).getD (0+1) aB))+1:=⟨_,rfl⟩;have hfr:xA p z τ:=xA.odd z (by omega);have hs0:dZ τ ((au p a).getD 0 aB) ((au p a).getD (0+1) aB)≠0:=by
  unfold dZ;by_cases c:hY ((au p a).getD 0 aB)<hY ((au p a).getD (0+1) aB)
  · rw [if_pos (by omega),if_neg (by omega)];omega
  · rw [if_neg (by omega),if_pos (by omega)];omega
 have hmem:(xE D ((au p a).getD 0 aB) ((au p a).getD (0+1) aB) τ,z a.id*dZ τ ((au p a).getD 0 aB) ((au p a).getD (0+1) aB))∈oN p z D τ :=
  List.mem_flatMap.2 ⟨a,ha,List.mem_map.2 ⟨0,List.mem_range.2 (by omega),rfl⟩⟩
 obtain ⟨u,hu,hmax⟩:=Yp (fun u:Int×Int=>u.1) ((oN p z D τ).filter (fun u=>decide (u.2≠0))) (by
  intro e;have:(xE D ((au p a).getD 0 aB) ((au p a).getD (0+1) aB) τ,z a.id*dZ τ ((au p a).getD 0 aB) ((au p a).getD (0+1) aB))∈(oN p z D τ).filter (fun u=>decide (u.2≠0)) :=
   List.mem_filter.2 ⟨hmem,by
    rw [decide_eq_true_eq];intro e;rcases Int.mul_eq_zero.1 e with e | e
    · exact hza e
    · exact hs0 e⟩
  rw [e] at this
  cases this)
 rw [List.mem_filter,decide_eq_true_eq] at hu;obtain ⟨hu,hu0⟩:=hu;have hb0:mV (oN p z D τ) u.1=0:=by
  refine yA _ _ fun v hv=>?_;by_cases c:v.2=0
  · rw [c];split<;>rfl
  ·have:=hmax v (List.mem_filter.2 ⟨hv,by rw [decide_eq_true_eq];exact c⟩)
   rw [if_neg (by omega)]
 obtain ⟨c,hc,hu⟩:=List.mem_flatMap.1 hu;obtain ⟨k,hk2,rfl⟩:=List.mem_map.1 hu;have hk2:=List.mem_range.1 hk2;simp only at hu0 hb0;have hz0:z c.id≠0:=fun e=>hu0 (by rw [e,Int.zero_mul]);have hs1:dZ τ ((au p c).getD k aB) ((au p c).getD (k+1) aB)≠0:=fun e=>hu0 (by rw [e,Int.mul_zero]);have hsp:=SB (hfr c hc hz0 k (by omega)) (hfr c hc hz0 (k+1) (by omega)) hs1;have b:=(h.Yn hz hD hd hfr hc (k:=k) (by omega) (by
  rcases hsp with ⟨g1,g2,-⟩ | ⟨g1,g2,-⟩
  · exact .inl ⟨g1,g2⟩
  · exact .inr ⟨g1,g2⟩)).1
 rw [hb0] at b;refine ⟨c,hc,hz0,?_⟩;split at b
 · exact .inr b.symm
 · exact .inl b.symm
end
def gu (p:Pl) (d:Int):List Pt:=match findAr p.ah (gV d) with
 | some a=>au p a
 | none=>[]
def gX (P:List Pt):List (Pt×Pt):=(List.range (P.length-1)).map fun k=>(P.getD k aB,P.getD (k+1) aB)
def bU (p:Pl) (X:List Int):List (Pt×Pt):=X.flatMap fun d=>gX (gu p d)
def o8 (v a b:Pt):Bool:=decide ((a.y<=v.y/\v.y<b.y/\0<tw a b v)\/(b.y<=v.y/\v.y<a.y/\tw a b v<0))
def Bv (v:Pt) (s:Bool×Bool) (q:Pt×Pt):Bool×Bool:=if fO q.1 q.2 v then (true,s.2) else if o8 v q.1 q.2 then (s.1,!s.2) else s
def KA (v:Pt) (l:List (Pt×Pt)):Bool×Bool:=l.foldl (Bv v) (false,false)
def encS (p:Pl) (X:List Int) (v:Pt):Bool:=(KA v (bU p X)).2 && !(KA v (bU p X)).1
theorem aez (v a b:Pt):o8 v a b=decide (vw v a b≠0):=by
 have t:tw b a v=-tw a b v:=by unfold tw;grind
 unfold o8 vw;rw [t];by_cases c1:a.y<=v.y/\v.y<b.y/\0<tw a b v
 · rw [if_pos c1,decide_eq_true (.inl c1)];rfl
 ·rw [if_neg c1];by_cases c2:b.y<=v.y/\v.y<a.y/\tw a b v<0
  · rw [if_pos ⟨c2.1,c2.2.1,by omega⟩,decide_eq_true (.inr c2)];rfl
  · rw [if_neg (by omega),decide_eq_false (by rintro (h | h);exact c1 h;exact c2 h)];rfl
theorem aeA (v:Pt):∀ (l:List (Pt×Pt)) (s:Bool×Bool),(l.foldl (Bv v) s).1=(s.1 || l.any fun q=>fO q.1 q.2 v)
 | [],s=>by simp
 | q::l,s=>by
  rw [List.foldl_cons,aeA v l,List.any_cons];unfold Bv;by_cases h:fO q.1 q.2 v=true
  · rw [if_pos h,h];simp
  ·rw [if_neg h];split<;>simp [h]
theorem aeB (v:Pt):∀ (l:List (Pt×Pt)) (s:Bool×Bool),(l.any fun q=>fO q.1 q.2 v)=false ->
  (l.foldl (Bv v) s).2=(s.2 != decide ((l.map fun q=>if o8 v q.1 q.2 then (1:Int) else 0).sum % 2=1))
 | [],s,_=>by simp
 | q::l,s,h=>by
  rw [List.any_cons,Bool.or_eq_false_iff] at h;rw [List.foldl_cons,aeB v l _ h.2,List.map_cons,List.sum_cons];unfold Bv;rw [if_neg (by rw [h.1];decide)];generalize (l.map fun q=>if o8 v q.1 q.2 then (1:Int) else 0).sum=n
  cases hp:o8 v q.1 q.2
  · rw [if_neg (by decide),if_neg (by decide),Int.zero_add]
  ·rw [if_pos rfl,if_pos rfl];by_cases hn:n % 2=1
   · rw [decide_eq_true hn,decide_eq_false (by omega)];cases s.2<;>rfl
   · rw [decide_eq_false hn,decide_eq_true (by omega)];cases s.2<;>rfl
theorem ams (v:Pt) (l:List (Pt×Pt)):((KA v l).2 && !(KA v l).1)=(!(l.any fun q=>fO q.1 q.2 v) && decide ((l.map fun q=>if o8 v q.1 q.2 then (1:Int) else 0).sum % 2=1)):=by
 unfold KA;rw [aeA]
 cases h:l.any fun q=>fO q.1 q.2 v
 · rw [aeB v l _ h];simp
 · simp
theorem SL {α:Type} (l:List α) (f g:α->Int) (h:∀ x∈l,f x % 2=g x % 2):(l.map f).sum % 2=(l.map g).sum % 2:=by
 induction l with
 | nil=>rfl
 | cons a l ih =>
  rw [List.map_cons,List.sum_cons,List.map_cons,List.sum_cons];have h1:=h a List.mem_cons_self;have h2:=ih fun x hx=>h x (List.mem_cons_of_mem _ hx);omega
theorem KC {a b v:Pt} (na:aW a=true) (nb:aW b=true) (nv:aW v=true):fO a b v=true↔jO a b v:=by
 unfold fO jO
 have:fH [a,b,v]=true:=by simp [fH,na,nb,nv]
 rw [this];simp [and_assoc]
section
variable {p:Pl} (h:Valid p)
include h
theorem Valid.BA {d:Int} (hd:d∈aQ p):∃ a∈p.ah,(d=a.id\/d=-a.id)/\gu p d=au p a:=by
 obtain ⟨a,ha,e⟩:=jD.1 hd;have hid:=(h.jC ha).1;refine ⟨a,ha,e,?_⟩;unfold gu
 have:gV d=a.id:=by unfold gV;rcases e with rfl | rfl<;>split<;>omega
 rw [this,h.find ha]
theorem Valid.SN {X:List Int} (hX:∀ d∈X,d∈aQ p) {q:Pt×Pt} (hq:q∈bU p X):∃ a∈p.ah,(a.id∈X\/-a.id∈X)/\∃ k,k+1<(au p a).length/\q=((au p a).getD k aB,(au p a).getD (k+1) aB):=by
 obtain ⟨d,hd,hq⟩:=List.mem_flatMap.1 hq;obtain ⟨a,ha,e,hp⟩:=h.BA (hX d hd);rw [hp] at hq;obtain ⟨k,hk,rfl⟩:=List.mem_map.1 hq;have hk:=List.mem_range.1 hk;refine ⟨a,ha,?_,k,by omega,rfl⟩;rcases e with rfl | rfl
 · exact .inl hd
 · exact .inr hd
theorem Valid.Yz {X:List Int} {a:Ar} (ha:a∈p.ah) (hm:a.id∈X\/-a.id∈X) {k:Nat} (hk:k+1<(au p a).length):((au p a).getD k aB,(au p a).getD (k+1) aB)∈bU p X:=by
 have hid:=(h.jC ha).1;have e:∀ d,(d=a.id\/d=-a.id)->gu p d=au p a:=fun d e=>by
  unfold gu
  have:gV d=a.id:=by unfold gV;rcases e with rfl | rfl<;>split<;>omega
  rw [this,h.find ha]
 rcases hm with hm | hm
 · exact List.mem_flatMap.2 ⟨_,hm,by rw [e _ (.inl rfl)];exact List.mem_map.2 ⟨k,List.mem_range.2 (by omega),rfl⟩⟩
 · exact List.mem_flatMap.2 ⟨_,hm,by rw [e _ (.inr rfl)];exact List.mem_map.2 ⟨k,List.mem_range.2 (by omega),rfl⟩⟩
theorem Valid.amu {X:List Int} (hX:X∈aY p) (v:Pt):((bU p X).map fun q=>if o8 v q.1 q.2 then (1:Int) else 0).sum % 2=yC p (aU X) v % 2:=by
 obtain ⟨-,h2⟩:=h.kK hX;have e1:((bU p X).map fun q=>if o8 v q.1 q.2 then (1:Int) else 0).sum=(X.map fun d=>jM (fun a b=>if o8 v a b then (1:Int) else 0) (gu p d)).sum:=by
  unfold bU;rw [List.map_flatMap,Yh];refine fV _ _ _ fun d _=>?_;unfold gX jM;rw [List.map_map];rfl
 rw [e1,h.SG hX];unfold yC cu;refine SL _ _ _ fun a ha=>?_;have hid:=(h.jC ha).1;have p1:gu p a.id=au p a:=by
  unfold gu;rw [show gV a.id=a.id by unfold gV;split<;>omega,h.find ha]
 have p2:gu p (-a.id)=au p a:=by
  unfold gu;rw [show gV (-a.id)=a.id by unfold gV;split<;>omega,h.find ha]
 rw [p1,p2];have e:jM (fun a b=>if o8 v a b then (1:Int) else 0) (au p a) % 2=jM (vw v) (au p a) % 2:=by
  unfold jM;refine SL _ _ _ fun k _=>?_
  show (if o8 v ((au p a).getD k aB) ((au p a).getD (k+1) aB)=true then (1:Int) else 0) % 2=_
  rw [aez];unfold vw;split
  · rfl
  · split<;>rfl
 generalize jM (fun a b=>if o8 v a b then (1:Int) else 0) (au p a)=s at *;generalize jM (vw v) (au p a)=t at *;unfold aU;by_cases c1:a.id∈X<;>by_cases c2:-a.id∈X<;>simp only [c1,c2,if_true,if_false]<;>omega
theorem Valid.SQ {X:List Int} (hX:X∈aY p) (hp:0<eY p X) {v:Pt} (nv:aW v=true) :
  encS p X v=true↔(∀ q∈bU p X,fO q.1 q.2 v=false)/\yC p (aU X) v=1:=by
 obtain ⟨-,h2⟩:=h.kK hX;unfold encS;rw [ams,Bool.and_eq_true,decide_eq_true_eq,h.amu hX,Bool.not_eq_true',List.any_eq_false];constructor
 ·rintro ⟨g1,g2⟩;have g1':∀ q∈bU p X,fO q.1 q.2 v=false:=fun q hq=>by simpa using g1 q hq
  have hoff:Dh p (aU X) v:=fun a ha hne k hk hon=>by
   have hm:a.id∈X\/-a.id∈X:=by
    by_cases c1:a.id∈X
    · exact .inl c1
    ·by_cases c2:-a.id∈X
     · exact .inr c2
     · exact absurd (by unfold aU;rw [if_neg c1,if_neg c2];rfl) hne
   have:=g1' _ (h.Yz ha hm hk)
   rw [(KC (h.bV ha (by omega)) (h.bV ha hk) nv).2 hon] at this
   cases this
  have:=h.amo (h.rJ hX) (h.Yw hX hp) nv hoff
  exact ⟨g1',by omega⟩
 ·rintro ⟨g1,g2⟩;exact ⟨fun q hq=>by rw [g1 q hq];decide,by rw [g2];rfl⟩
theorem Valid.SS {X:List Int} {v:Pt} (nv:aW v=true) (g:∀ q∈bU p X,fO q.1 q.2 v=false):Dh p (aU X) v:=fun a ha hne k hk hon=>by
 have hm:a.id∈X\/-a.id∈X:=by
  by_cases c1:a.id∈X
  · exact .inl c1
  ·by_cases c2:-a.id∈X
   · exact .inr c2
   · exact absurd (by unfold aU;rw [if_neg c1,if_neg c2];rfl) hne
 have:=g _ (h.Yz ha hm hk)
 rw [(KC (h.bV ha (by omega)) (h.bV ha hk) nv).2 hon] at this
 cases this
end
section
variable {α:Type} (E:α->Bool) (t:α->Int)
def zB (b:Option α) (x:α):Option α:=if (E x && (match b with | none=>true | some y=>decide (t x<t y)))=true then some x else b
def kW (l:List α):Option α:=l.foldl (zB E t) none
theorem EX (l:List α) (x:α):kW E t (l++[x])=zB E t (kW E t l) x:=by unfold kW;rw [List.foldl_append];rfl
theorem YA {P:List α->Prop} (h0:P []) (h1:∀ l x,P l->P (l++[x])) (l:List α):P l:=by
 have:∀ k,k<=l.length->P (l.take k):=by
  intro k
  induction k with
  | zero=>intro _;exact h0
  | succ k ih=>intro hk;rw [List.take_succ_eq_append_getElem (show k<l.length by omega)];exact h1 _ _ (ih (by omega))
 have:=this l.length (Nat.le_refl _)
 rwa [List.take_length] at this
theorem YC (l:List α):match kW E t l with
  | none=>∀ x∈l,E x=false
  | some x=>x∈l/\E x=true/\∀ y∈l,E y=true->t x<=t y:=by
 induction l using YA with
 | h0=>exact fun x hx=>by cases hx
 | h1 l x ih =>
  rw [EX];unfold zB
  cases hb:kW E t l with
  | none =>
   rw [hb] at ih;simp only [Bool.and_true];by_cases hE:E x=true
   ·rw [if_pos hE];refine ⟨by simp,hE,fun y hy Ic=>?_⟩;rcases List.mem_append.1 hy with hy | hy
    · rw [ih y hy] at Ic;cases Ic
    · rw [List.mem_singleton] at hy;subst hy;exact Int.le_refl _
   ·rw [if_neg hE];intro y hy;rcases List.mem_append.1 hy with hy | hy
    · exact ih y hy
    · rw [List.mem_singleton] at hy;subst hy;simpa using hE
  | some z =>
   rw [hb] at ih;simp only [Bool.and_eq_true,decide_eq_true_eq];by_cases hE:E x=true/\t x<t z
   ·rw [if_pos hE];refine ⟨by simp,hE.1,fun y hy Ic=>?_⟩;rcases List.mem_append.1 hy with hy | hy
    · have:=ih.2.2 y hy Ic;omega
    · rw [List.mem_singleton] at hy;subst hy;exact Int.le_refl _
   ·rw [if_neg hE];refine ⟨List.mem_append_left _ ih.1,ih.2.1,fun y hy Ic=>?_⟩;rcases List.mem_append.1 hy with hy | hy
    · exact ih.2.2 y hy Ic
    ·rw [List.mem_singleton] at hy;subst hy;have:¬ t y<t z:=fun h=>hE ⟨Ic,h⟩
     omega
theorem Ie {l:List α} {x:α} (h:kW E t l=some x):x∈l/\E x=true/\∀ y∈l,E y=true->t x<=t y:=by
 have:=YC E t l
 rw [h] at this;exact this
end
end Go.Proofs.YtialfdomhoojiaaGreat
