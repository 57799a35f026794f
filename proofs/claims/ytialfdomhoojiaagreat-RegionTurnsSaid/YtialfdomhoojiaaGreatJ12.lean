import Derived.Test.YtialfdomhoojiaaGreatJ11
set_option linter.unusedSimpArgs false
set_option linter.unusedVariables false
namespace Go.Proofs.YtialfdomhoojiaaGreat
open Go.RowKit
set_option linter.unusedSectionVars false
def aG (X:List Int) (i:Int):Int:=(if i∈X then 1 else 0)-(if -i∈X then 1 else 0)
def dV (p:Pl) (X:List Int):Int:=(X.map (qI p)).sum
theorem anz (P:List Pt):jY sU P=xX P:=by
 unfold jY xX;generalize P.length-1=n
 induction n with
 | zero=>rfl
 | succ n ih=>rw [List.range_succ,List.map_append,List.sum_append,ih,oK];simp
theorem Gq (p:Pl) (z:Int->Int) (f:Pt->Pt->Int):bZ p (fun i=>-z i) f=-bZ p z f:=by
 unfold bZ;rw [<- vk];exact iC _ _ _ fun a _=>by rw [Int.neg_mul]
theorem PN {p:Pl} {z:Int->Int} {f:Pt->Pt->Int} (h0:∀ a∈p.ah,z a.id=0\/∀ k,k+1<(ak p a).length->f ((ak p a).getD k aB) ((ak p a).getD (k+1) aB)=0):bZ p z f=0:=by
 unfold bZ jY;refine wE _ _ fun a ha=>?_;rcases h0 a ha with e | e
 · rw [e,Int.zero_mul]
 · rw [wE _ _ (fun k hk=>e k (by have:=List.mem_range.1 hk;omega)),Int.mul_zero]
theorem aai {α:Type} (f:α->Int):∀ l:List α,l≠[]->∃ x∈l,∀ y∈l,f y<=f x
 | [],h=>absurd rfl h
 | [a],_=>⟨a,by simp,fun y hy=>by rw [List.mem_singleton] at hy;subst hy;exact Int.le_refl _⟩
 | a::b::l,_=>by
  obtain ⟨x,hx,hm⟩:=aai f (b::l) (by simp);by_cases c:f a<=f x
  ·refine ⟨x,List.mem_cons_of_mem _ hx,fun y hy=>?_⟩;rcases List.mem_cons.1 hy with rfl | hy
   · exact c
   · exact hm y hy
  ·refine ⟨a,List.mem_cons_self,fun y hy=>?_⟩;rcases List.mem_cons.1 hy with rfl | hy
   · exact Int.le_refl _
   · have:=hm y hy;omega
theorem anA (p:Pl) (l:List Int) (k:Nat) (hk:k<=l.length):uZ p l k=((l.take k).map (qI p)).sum:=by
 induction k with
 | zero=>simp [uZ]
 | succ k ih =>
  rw [uZ,ih (by omega),List.take_succ_eq_append_getElem (show k<l.length by omega),List.map_append,List.sum_append,List.getD_eq_getElem?_getD,List.getElem?_eq_getElem (show k<l.length by omega)];simp
section
variable {p:Pl} (h:Valid p)
include h
theorem Valid.anB (F:Int->Int):((aQ p).map F).sum=(p.ah.map fun a=>F a.id+F (-a.id)).sum:=by
 unfold aQ;rw [List.map_append,List.sum_append,LV ((List.reverse_perm _).map F),List.map_map,List.map_map,sZ]
 show (p.ah.map fun a=>F (-a.id)).sum+(p.ah.map fun a=>F a.id).sum=_
 omega
theorem Valid.iE {X:List Int} (hX:X∈bF p):X.Nodup/\(∀ d∈X,d∈aQ p):=by
 obtain ⟨x,hx,e,-,-⟩:=h.uI hX;have hD:∀ x∈aQ p,fO p x∈aQ p:=fun x hx=>(h.sQ hx).1;have hf:=Ec hD (fun x hx y hy=>h.Ef hx hy) hx;rw [e];exact ⟨hf.2.2.2.2.1,fun d hd=>Zh hD hx hd⟩
theorem Valid.UA {X:List Int} (hX:X∈bF p) {d:Int} (hd:d∈aQ p):fO p d∈X↔d∈X:=by
 obtain ⟨x,hx,e,-,-⟩:=h.uI hX;rw [e];exact Zf (fun x hx=>(h.sQ hx).1) (fun x hx y hy=>h.Ef hx hy) hx hd
theorem Valid.UC {X:List Int} (hX:X∈bF p) (F:Int->Int):(X.map F).sum=(p.ah.map fun a=>(if a.id∈X then F a.id else 0)+(if -a.id∈X then F (-a.id) else 0)).sum:=by
 obtain ⟨h1,h2⟩:=h.iE hX;rw [<- h.anB (fun d=>if d∈X then F d else 0)];have hp:((aQ p).filter (fun d=>decide (d∈X))).Perm X:=by
  refine (List.perm_ext_iff_of_nodup (h.Ug.filter _) h1).2 fun d=>?_;rw [List.mem_filter,decide_eq_true_eq];exact ⟨fun h=>h.2,fun h=>⟨h2 d h,h⟩⟩
 rw [<- LV (hp.map F)];generalize aQ p=D
 induction D with
 | nil=>rfl
 | cons d D ih =>
  rw [List.map_cons,List.sum_cons,List.filter_cons];by_cases c:d∈X
  · rw [if_pos (by simpa using c),if_pos c,List.map_cons,List.sum_cons,ih]
  · rw [if_neg (by simpa using c),if_neg c,ih];omega
theorem Valid.anC {X:List Int} (hX:X∈bF p):(X.map (fO p)).Perm X:=by
 obtain ⟨h1,h2⟩:=h.iE hX;have hn:(X.map (fO p)).Nodup:=by
  rw [List.nodup_iff_pairwise_ne,List.pairwise_map];rw [List.nodup_iff_pairwise_ne] at h1;refine List.Pairwise.imp_of_mem (fun {a b} ha hb hne e=>hne (h.Ef (h2 a ha) (h2 b hb) e)) h1
 refine (List.perm_ext_iff_of_nodup hn h1).2 fun y=>?_;rw [List.mem_map];constructor
 ·rintro ⟨x,hx,rfl⟩;exact (h.UA hX (h2 x hx)).2 hx
 ·intro hy;obtain ⟨x,hx,e,-,-⟩:=h.uI hX;have hf:=Ec (fun x hx=>(h.sQ hx).1) (fun x hx y hy=>h.Ef hx hy) hx;rw [e] at hy ⊢;unfold mW at hy ⊢;obtain ⟨k,hk,rfl⟩:=vZ.1 hy
  cases k with
  | zero =>
   refine ⟨pw (fO p) x (oZ (fO p) (aQ p) x-1),vZ.2 ⟨_,by omega,rfl⟩,?_⟩
   have:pw (fO p) x (oZ (fO p) (aQ p) x-1+1)=x:=by rw [Nat.sub_add_cancel hf.1];exact hf.2.2.1
   rw [pw] at this;exact this
  | succ k=>exact ⟨pw (fO p) x k,vZ.2 ⟨k,by omega,rfl⟩,rfl⟩
theorem Valid.qK {X:List Int} (hX:X∈bF p):iy p (aG X):=by
 intro n _;obtain ⟨h1,h2⟩:=h.iE hX;have e1:=h.UC hX (fun d=>(if lu p (-d)=n.id then 1 else 0)-(if lu p d=n.id then 1 else 0));have e2:(X.map fun d=>((if lu p (-d)=n.id then 1 else 0)-(if lu p d=n.id then 1 else 0):Int)).sum=0:=by
  have e3:=LV ((h.anC hX).map fun d=>if lu p d=n.id then (1:Int) else 0);rw [List.map_map] at e3;rw [iC _ _ (fun d=>(if lu p (fO p d)=n.id then (1:Int) else 0) + -(if lu p d=n.id then 1 else 0)) (fun d hd=>by rw [(h.sQ (h2 d hd)).2];omega),sZ,vk];have e4:(X.map fun d=>if lu p (fO p d)=n.id then (1:Int) else 0).sum=(X.map ((fun d=>if lu p d=n.id then (1:Int) else 0) ∘ fO p)).sum:=rfl;omega
 rw [e2] at e1;refine Eq.trans ?_ e1.symm;refine iC _ _ _ fun a ha=>?_;simp only [Int.neg_neg];rw [h.Ue ha,h.Pg ha];unfold aG;generalize (if a.dst=n.id then (1:Int) else 0)=u;generalize (if a.fr=n.id then (1:Int) else 0)=v;by_cases c1:a.id∈X<;>by_cases c2:-a.id∈X<;>simp only [c1,c2,if_true,if_false]<;>omega
theorem Valid.anD {a:Ar} (ha:a∈p.ah):qI p a.id=xX (ak p a)/\qI p (-a.id)=-xX (ak p a):=by
 have hid:=(h.jB ha).1;unfold qI;rw [h.O9 ha,h.Ud ha];simp only;rw [if_pos (by omega),if_neg (by omega)];exact ⟨rfl,rfl⟩
theorem Valid.Je {X:List Int} (hX:X∈bF p):dV p X=bZ p (aG X) sU:=by
 unfold dV bZ;rw [h.UC hX];refine iC _ _ _ fun a ha=>?_;obtain ⟨e1,e2⟩:=h.anD ha;rw [anz,e1,e2];unfold aG;by_cases c1:a.id∈X<;>by_cases c2:-a.id∈X<;>simp only [c1,c2,if_true,if_false]<;>omega
theorem Valid.aaj {X:List Int} (hX:X∈bF p) {d e:Int} (hd:d∈aQ p) (he:e∈aQ p) (hs:aK p p.ah.length d=aK p p.ah.length e) :
  Hz p (aG X) d-(if d∈X then 1 else 0)=Hz p (aG X) e-(if e∈X then 1 else 0):=by
 have hz:=h.qK hX;have hc:=h.am8 (fun d=>Hz p (aG X) d-(if d∈X then 1 else 0)) (fun d hd=>by
  show Hz p (aG X) (fO p d)-(if fO p d∈X then 1 else 0)=_
  rw [h.am0 hz hd];by_cases c:d∈X
  · rw [if_pos c,if_pos ((h.UA hX hd).2 c)]
  · rw [if_neg c,if_neg (fun e=>c ((h.UA hX hd).1 e))]) p.ah.length (Nat.le_refl _) (fun j hj _ _=>by
  have:=h.yg hz (List.getElem_mem hj)
  unfold aG at this ⊢
  show Hz p _ p.ah[j].id-_=Hz p _ (-p.ah[j].id)-_
  omega)
 have h1:_=_:=hc d hd;have h2:_=_:=hc e he;rw [<- h1,<- h2,hs]
theorem Valid.afo {r:Int} (hr:r∈aQ p):∃ d∈aQ p,aK p p.ah.length d=aK p p.ah.length r /\
  ∀ z,iy p z->(∀ a∈p.ah,z a.id≠0->aK p p.ah.length a.id=aK p p.ah.length r)->Hz p z d=0:=by
 obtain ⟨q,hq,hmax⟩:=aai (fun q:Ar×Nat=>hY ((ak p q.1).getD q.2 aB)) (p.ah.flatMap fun a=>if aK p p.ah.length a.id=aK p p.ah.length r then (List.range (ak p a).length).map fun k=>(a,k) else []) (by
  obtain ⟨a,ha,e⟩:=ji.1 hr;have hm:a.id∈aQ p:=ji.2 ⟨a,ha,.inl rfl⟩;have hs:aK p p.ah.length a.id=aK p p.ah.length r:=by
   rcases e with rfl | rfl
   · rfl
   · exact (h.wG hm).symm
  have hl:=fM p a;intro e;have:(a,0)∈(p.ah.flatMap fun a=>if aK p p.ah.length a.id=aK p p.ah.length r then (List.range (ak p a).length).map fun k=>(a,k) else []) :=
   List.mem_flatMap.2 ⟨a,ha,by rw [if_pos hs];exact List.mem_map.2 ⟨0,List.mem_range.2 (by omega),rfl⟩⟩
  rw [e] at this
  cases this)
 obtain ⟨a,ha,hq⟩:=List.mem_flatMap.1 hq;split at hq
 case isFalse => cases hq
 rename_i hsa;obtain ⟨k,hk,rfl⟩:=List.mem_map.1 hq;have hk:=List.mem_range.1 hk;simp only at hmax;have hl:=fM p a;have top:∀ c∈p.ah,aK p p.ah.length c.id=aK p p.ah.length r->∀ m,m<(ak p c).length->hY ((ak p c).getD m aB)<=hY ((ak p a).getD k aB):=by
  intro c hc hs m hm;exact hmax (c,m) (List.mem_flatMap.2 ⟨c,hc,by rw [if_pos hs];exact List.mem_map.2 ⟨m,List.mem_range.2 hm,rfl⟩⟩)
 have loc:∀ z,(∀ a∈p.ah,z a.id≠0->aK p p.ah.length a.id=aK p p.ah.length r)->∀ u,mY p z ((ak p a).getD k aB) u=bZ p z (yc (fun x=>ind (eH ((ak p a).getD k aB) x u)) ((ak p a).getD k aB)):=by
  intro z hz u;generalize (ak p a).getD k aB=v at *;have e:mY p z v u=bZ p z (fun a b=>o8 a b v+yc (fun x=>ind (eH v x u)) v a b):=by
   unfold mY;refine Px fun c _ m _=>?_;generalize (ak p c).getD m aB=x;generalize (ak p c).getD (m+1) aB=y;unfold tq yc ind;by_cases h1:x=v<;>by_cases h2:y=v<;>simp only [h1,h2,true_and,false_and,if_true,if_false]<;>omega
  rw [e,I9 p z (fun a b=>o8 a b v),PN (f:=fun a b=>o8 a b v) (fun c hc=>?_),Int.zero_add];by_cases h0:z c.id=0
  · exact .inl h0
  ·right;intro m hm;have t1:=top c hc (hz c hc h0) m (by omega);have t2:=top c hc (hz c hc h0) (m+1) hm;unfold o8;rw [if_neg (by omega),if_neg (by omega)]
 have hma:a.id∈aQ p:=ji.2 ⟨a,ha,.inl rfl⟩;have anE:-a.id∈aQ p:=ji.2 ⟨a,ha,.inr rfl⟩;have node:∀ n∈p.nodes,(ak p a).getD k aB=n.pt->(a.id∈dJ p n.id\/-a.id∈dJ p n.id)->∃ d∈aQ p,aK p p.ah.length d=aK p p.ah.length r /\
   ∀ z,iy p z->(∀ a∈p.ah,z a.id≠0->aK p p.ah.length a.id=aK p p.ah.length r)->Hz p z d=0:=by
  intro n hn ev hor;rw [ev] at loc;have hpos:0<(dJ p n.id).length:=by
   rcases hor with e | e<;>exact List.length_pos_of_mem e
  have h0m:(dJ p n.id)[0]∈dJ p n.id:=List.getElem_mem hpos;have h0d:=(h.nT hn).subset h0m;obtain ⟨hdd,hst⟩:=h.Ee h0d;refine ⟨-(dJ p n.id)[0],y8 hdd,?_,fun z hz hzs=>?_⟩
  ·rw [h.wG hdd];rcases hor with e | e
   · rw [h.ZW hn h0m e];exact hsa
   · rw [h.ZW hn h0m e,h.wG hma];exact hsa
  ·have hr0:mY p z n.pt (dN p (dJ p n.id)[0])=0:=by
    rw [loc z hzs,h.ZN z _ hn];refine wE _ _ fun x hx=>?_;obtain ⟨j,hj,rfl⟩:=List.mem_iff_getElem.1 ((h.nT hn).symm.subset hx)
    have:ind (eH n.pt (dN p (dJ p n.id)[j]) (dN p (dJ p n.id)[0]))=0:=by
     by_cases hj0:j=0
     · subst hj0;exact Ej _ _
     · exact if_neg (Ja (h.ae8 hn (i:=0) (j:=j) (by omega) hj))
    rw [this,Int.mul_zero]
   have j:=h.LU hz hn h0d;have j2:=h.ae9 hz hdd;have e:Hz p z (dJ p n.id)[0]=rM p z n.pt (dN p (dJ p n.id)[0]):=by
    unfold Hz;rw [hst,h.sound.sH hn]
   omega
 by_cases h0:k=0
 ·subst h0;obtain ⟨n,hn,e1,e2⟩:=h.sound.AU ha;exact node n hn (by rw [yZ,e2]) (.inl ((h.nT hn).symm.subset (xW.2 ⟨a,ha,.inl ⟨rfl,e1.symm⟩⟩)))
 by_cases h1:k=(ak p a).length-1
 ·obtain ⟨n,hn,e1,e2⟩:=h.sound.CS ha;exact node n hn (by rw [h1,zf,e2]) (.inr ((h.nT hn).symm.subset (xW.2 ⟨a,ha,.inr ⟨rfl,e1.symm⟩⟩)))
 ·obtain ⟨m,rfl⟩:∃ m,k=m+1:=⟨k-1,by omega⟩;have hin:m+2<(ak p a).length:=by omega
  have at_:=fun z φ=>h.Um z φ ha (j:=m+1) (by omega) hin;rcases h.ZQ ha hin with c | c
  ·refine ⟨a.id,hma,hsa,fun z hz hzs=>?_⟩;rw [<- (h.PI hz ha (m:=m) (by omega)).2,loc z hzs,at_ z,show m+1-1=m by omega,show m+1+1=m+2 by omega,Ej];rw [show ind (eH ((ak p a).getD (m+1) aB) ((ak p a).getD (m+2) aB) ((ak p a).getD m aB))=0 from if_neg (Ja c),Int.sub_self,Int.mul_zero]
  ·refine ⟨-a.id,anE,by rw [h.wG hma];exact hsa,fun z hz hzs=>?_⟩;rw [<- (h.PI hz ha (m:=m+1) (by omega)).1,loc z hzs,at_ z,show m+1-1=m by omega,show m+1+1=m+2 by omega,Ej];rw [show ind (eH ((ak p a).getD (m+1) aB) ((ak p a).getD m aB) ((ak p a).getD (m+2) aB))=0 from if_neg (Ja c),Int.sub_self,Int.mul_zero]
theorem Valid.yt {X:List Int} (hX:X∈bF p) {d e:Int} (hd:d∈X) (he:e∈X):aK p p.ah.length d=aK p p.ah.length e:=by
 have h2:=(h.iE hX).2;refine h.ZV (k:=0) (Nat.zero_le _) (Nat.le_refl _) ?_
 show En (bF p) d=En (bF p) e
 rw [h.head_eq hX (h2 d hd) hd,h.head_eq hX (h2 e he) he]
theorem Valid.afp {X:List Int} (hX:X∈bF p) {r d0:Int} (hr:r∈X) (hd:d0∈aQ p) (hs:aK p p.ah.length d0=aK p p.ah.length r)
  (h0:∀ z,iy p z->(∀ a∈p.ah,z a.id≠0->aK p p.ah.length a.id=aK p p.ah.length r)->Hz p z d0=0):0<dV p X↔d0∉X:=by
 have hz:=h.qK hX;have h2:=(h.iE hX).2;have PO:∀ a∈p.ah,aG X a.id≠0->aK p p.ah.length a.id=aK p p.ah.length r:=by
  intro a ha hne;have hma:a.id∈aQ p:=ji.2 ⟨a,ha,.inl rfl⟩;by_cases c1:a.id∈X
  · exact h.yt hX c1 hr
  ·by_cases c2:-a.id∈X
   · rw [<- h.wG hma];exact h.yt hX c2 hr
   · exact absurd (by unfold aG;rw [if_neg c1,if_neg c2];rfl) hne
 have hH:=h0 _ hz PO;have cl:∀ d∈aQ p,aK p p.ah.length d=aK p p.ah.length r->Hz p (aG X) d=(if d∈X then 1 else 0)-(if d0∈X then 1 else 0):=by
  intro d hd' hsd;have:=h.aaj hX hd' hd (by rw [hsd,hs])
  omega
 have two:∀ a∈p.ah,aG X a.id≠0->Hz p (aG X) a.id=(if a.id∈X then 1 else 0)-(if d0∈X then 1 else 0)/\Hz p (aG X) (-a.id)=(if -a.id∈X then 1 else 0)-(if d0∈X then 1 else 0):=by
  intro a ha hne;have hma:a.id∈aQ p:=ji.2 ⟨a,ha,.inl rfl⟩;exact ⟨cl _ hma (PO a ha hne),cl _ (y8 hma) (by rw [h.wG hma];exact PO a ha hne)⟩
 rw [h.Je hX];by_cases c:d0∈X
 ·refine ⟨fun hp=>?_,fun hn=>absurd c hn⟩;exfalso;have hneg:iy p (fun i=>-aG X i):=fun n hn=>by
   have:=hz n hn
   show (p.ah.map fun a=>-aG X a.id*((if a.dst=n.id then 1 else 0)-(if a.fr=n.id then 1 else 0))).sum=0
   refine (iC _ _ (fun a:Ar=>-(aG X a.id*((if a.dst=n.id then (1:Int) else 0)-(if a.fr=n.id then 1 else 0)))) (fun a _=>Int.neg_mul _ _)).trans ?_;rw [vk,this];rfl
  have hN:∀ d,Hz p (fun i=>-aG X i) d=-Hz p (aG X) d:=fun d=>Gq _ _ _;have:=(h.PK hneg (fun a ha hne=>by
   have hne':aG X a.id≠0:=fun e=>hne (by show -_=(0:Int);rw [e];rfl);obtain ⟨t1,t2⟩:=two a ha hne';rw [hN,hN,t1,t2,if_pos c];unfold aG at hne';by_cases c1:a.id∈X<;>by_cases c2:-a.id∈X<;>simp only [c1,c2,if_true,if_false] at hne' ⊢ <;> omega)).1
  rw [Gq] at this;omega
 ·refine ⟨fun _=>c,fun _=>?_⟩;refine (h.PK hz (fun a ha hne=>by
   obtain ⟨t1,t2⟩:=two a ha hne;rw [t1,t2,if_neg c];unfold aG at hne;by_cases c1:a.id∈X<;>by_cases c2:-a.id∈X<;>simp only [c1,c2,if_true,if_false] at hne ⊢ <;> omega)).2 ?_
  apply Classical.byContradiction;intro hno;have h1:=cl r (h2 r hr) rfl;rw [if_pos hr,if_neg c] at h1
  have:Hz p (aG X) r=0:=PN fun a ha=>.inl (Classical.byContradiction fun e=>hno ⟨a,ha,e⟩)
  omega
end
set_option linter.unusedSectionVars false
def wH (v a b:Pt):Int:=if a.y<=v.y/\v.y<b.y/\0<tw a b v then 1 else if b.y<=v.y/\v.y<a.y/\0<tw b a v then -1 else 0
def oM (p:Pl) (z:Int->Int) (v:Pt):Int:=bZ p z (wH v)
def iT (a b v:Pt):Prop:=tw a b v=0/\min a.x b.x<=v.x/\v.x<=max a.x b.x/\min a.y b.y<=v.y/\v.y<=max a.y b.y
instance (a b v:Pt):Decidable (iT a b v):=by unfold iT;infer_instance
def vw (p:Pl) (z:Int->Int) (v:Pt):Prop:=∀ a∈p.ah,z a.id≠0->∀ k,k+1<(ak p a).length->¬ iT ((ak p a).getD k aB) ((ak p a).getD (k+1) aB) v
theorem afq (a b v:Pt):xN a b (2*hY v)-2*v.x*(hY b-hY a)=16777216*tw a b v:=by unfold xN tw hY;grind
theorem afs {D:Int} (hD:0<D) {a b v:Pt} (hab:hY a<hY b) (hd:hY b-hY a∣D):2*D*v.x<xE D a b (2*hY v)↔0<tw a b v:=by
 obtain ⟨q,hq⟩:=hd;unfold xE;have e1:D / (hY b-hY a)=q:=by rw [hq];exact Int.mul_ediv_cancel_left _ (by omega)
 have hx:=afq a b v;have hn:0<hY b-hY a:=by omega
 rw [e1];generalize hY b-hY a=n at *;generalize xN a b (2*hY v)=X at *;have hqp:0<q:=by
  rcases Int.lt_trichotomy q 0 with g | g | g
  · have:=Int.mul_neg_of_pos_of_neg hn g;omega
  · subst g;rw [Int.mul_zero] at hq;omega
  · exact g
 have k:X*q-2*D*v.x=(X-2*v.x*n)*q:=by rw [hq];grind
 rw [hx] at k;have s1:0<tw a b v->0<16777216*tw a b v*q:=fun h=>Int.mul_pos (by omega) hqp;have s2:tw a b v<=0->16777216*tw a b v*q<=0:=fun h=>Int.mul_nonpos_of_nonpos_of_nonneg (by omega) (by omega);generalize tw a b v=t at *;constructor<;>intro<;>omega
theorem Gs (p:Pl) (z u:Int->Int) (f:Pt->Pt->Int):bZ p (fun i=>z i+u i) f=bZ p z f+bZ p u f:=by
 unfold bZ;rw [<- sZ];exact iC _ _ _ fun a _=>by rw [Int.add_mul]
theorem iy.add {p:Pl} {z u:Int->Int} (h1:iy p z) (h2:iy p u):iy p (fun i=>z i+u i):=fun n hn=>by
 have e1:=h1 n hn;have e2:=h2 n hn;refine (iC _ _ (fun a:Ar=>z a.id*((if a.dst=n.id then (1:Int) else 0)-(if a.fr=n.id then 1 else 0))+u a.id*((if a.dst=n.id then (1:Int) else 0)-(if a.fr=n.id then 1 else 0))) (fun a _=>Int.add_mul _ _ _)).trans ?_;rw [sZ,e1,e2];rfl
theorem iy.neg {p:Pl} {z:Int->Int} (h1:iy p z):iy p (fun i=>-z i):=fun n hn=>by
 have e1:=h1 n hn;refine (iC _ _ (fun a:Ar=>-(z a.id*((if a.dst=n.id then (1:Int) else 0)-(if a.fr=n.id then 1 else 0)))) (fun a _=>Int.neg_mul _ _)).trans ?_;rw [vk,e1];rfl
theorem anF {D:Int} (hD:0<D) {a b v:Pt} (na:aU a=true) (nb:aU b=true) (nv:aU v=true) (hne:a≠b) (hd:hY b-hY a∣D) (hav:a≠v) (hbv:b≠v) (hoff:¬ iT a b v) :
  wH v a b=(if 2*D*v.x<xE D a b (2*hY v) then fB (2*hY v) a b else 0)+((if a.y=v.y/\v.x<a.x then 1 else 0)-(if b.y=v.y/\v.x<b.x then 1 else 0)):=by
 have key:∀ {a b:Pt},aU a=true->aU b=true->hY a<hY b->hY b-hY a∣D->a≠v->b≠v->¬ iT a b v ->
   wH v a b=(if 2*D*v.x<xE D a b (2*hY v) then fB (2*hY v) a b else 0)+((if a.y=v.y/\v.x<a.x then 1 else 0)-(if b.y=v.y/\v.x<b.x then 1 else 0)):=by
  intro a b na nb hab hd hav hbv hoff;have hx:=afs hD (v:=v) hab hd;simp only [hx];rw [xJ] at na nb nv;have ha:¬ (a.x=v.x/\a.y=v.y):=fun e=>hav (Pt.ext_iff'.2 e);have hb:¬ (b.x=v.x/\b.y=v.y):=fun e=>hbv (Pt.ext_iff'.2 e);have tba:tw b a v=-tw a b v:=by unfold tw;grind
  unfold wH fB iT at *;rw [tba];unfold hY at *;have s1:a.y=v.y->tw a b v=(b.y-a.y)*(a.x-v.x):=fun e=>by unfold tw;rw [e];grind
  have s2:b.y=v.y->tw a b v=(b.y-a.y)*(b.x-v.x):=fun e=>by unfold tw;rw [e];grind
  have p1:∀ {x y:Int},0<x->0<y->0<x*y:=fun h1 h2=>Int.mul_pos h1 h2;have p2:∀ {x y:Int},0<x->y<0->x*y<0:=fun h1 h2=>Int.mul_neg_of_pos_of_neg h1 h2;generalize tw a b v=t at *;by_cases hy:a.y=b.y
  ·have hx2:a.x<b.x:=by omega
   have e1:¬ (a.y<=v.y/\v.y<b.y/\0<t):=by omega
   have e2:¬ (b.y<=v.y/\v.y<a.y/\0 < -t):=by omega
   rw [if_neg e1,if_neg e2];by_cases hv:a.y=v.y
   ·have t0:t=0:=by rw [s1 hv,hy,Int.sub_self,Int.zero_mul]
    rw [if_neg (show ¬ 0<t by omega)];by_cases c:v.x<a.x
    · rw [if_pos ⟨hv,c⟩,if_pos (by omega)];rfl
    ·have:¬ v.x<b.x:=fun c2=>hoff ⟨t0,by omega⟩
     rw [if_neg (by omega),if_neg (by omega)];rfl
   ·rw [if_neg (show ¬ (a.y=v.y/\v.x<a.x) by omega),if_neg (show ¬ (b.y=v.y/\v.x<b.x) by omega)];split
    ·by_cases c:v.y<a.y
     · rw [if_pos (by omega),if_pos (by omega)];rfl
     · rw [if_neg (by omega),if_neg (by omega)];rfl
    · rfl
  ·have hy:a.y<b.y:=by omega
   rw [if_neg (show ¬ (b.y<=v.y/\v.y<a.y/\0 < -t) by omega)];by_cases c1:a.y=v.y
   ·have e:=s1 c1;rw [if_neg (show ¬ (b.y=v.y/\v.x<b.x) by omega)];by_cases c2:v.x<a.x
    ·have:=p1 (show 0<b.y-a.y by omega) (show 0<a.x-v.x by omega)
     rw [if_pos (show a.y<=v.y/\v.y<b.y/\0<t by omega),if_pos (show 0<t by omega),if_pos (by omega),if_pos (by omega),if_pos ⟨c1,c2⟩];rfl
    ·have:=p2 (show 0<b.y-a.y by omega) (show a.x-v.x<0 by omega)
     rw [if_neg (show ¬ (a.y<=v.y/\v.y<b.y/\0<t) by omega),if_neg (show ¬ 0<t by omega),if_neg (by omega)];rfl
   ·rw [if_neg (show ¬ (a.y=v.y/\v.x<a.x) by omega)];by_cases c2:b.y=v.y
    ·have e:=s2 c2;rw [if_neg (show ¬ (a.y<=v.y/\v.y<b.y/\0<t) by omega)];by_cases c3:v.x<b.x
     ·have:=p1 (show 0<b.y-a.y by omega) (show 0<b.x-v.x by omega)
      rw [if_pos (show 0<t by omega),if_pos (by omega),if_neg (by omega),if_pos ⟨c2,c3⟩];rfl
     ·have:=p2 (show 0<b.y-a.y by omega) (show b.x-v.x<0 by omega)
      rw [if_neg (show ¬ 0<t by omega),if_neg (by omega)];rfl
    ·rw [if_neg (show ¬ (b.y=v.y/\v.x<b.x) by omega)];by_cases c3:0<t
     ·rw [if_pos c3];by_cases c4:a.y<v.y/\v.y<b.y
      · rw [if_pos (by omega),if_pos (by omega),if_neg (by omega)];rfl
      ·rw [if_neg (by omega)];by_cases c5:v.y<a.y
       · rw [if_pos (by omega),if_pos (by omega)];rfl
       · rw [if_neg (by omega),if_neg (by omega)];rfl
     · rw [if_neg (by omega),if_neg c3];rfl
 rcases Int.lt_trichotomy (hY a) (hY b) with c | c | c
 · exact key na nb c hd hav hbv hoff
 · exact absurd (mg na nb c) hne
 ·have anG:¬ iT b a v:=fun e=>hoff (by
   obtain ⟨e1,e2⟩:=e;refine ⟨?_,by rw [Int.min_comm,Int.max_comm a.x,Int.min_comm a.y,Int.max_comm a.y];exact e2⟩
   have:tw b a v=-tw a b v:=by unfold tw;grind
   omega)
  have e:=key nb na c (by rw [show hY a-hY b=-(hY b-hY a) by omega];exact Int.neg_dvd.2 hd) hbv hav anG;have e1:wH v b a=-wH v a b:=by
   unfold wH;by_cases c1:b.y<=v.y/\v.y<a.y/\0<tw b a v
   · rw [if_pos c1,if_neg (by omega),if_pos c1];rfl
   ·by_cases c2:a.y<=v.y/\v.y<b.y/\0<tw a b v
    · rw [if_neg c1,if_pos c2,if_pos c2]
    · rw [if_neg c1,if_neg c2,if_neg c2,if_neg c1];rfl
  have e2:fB (2*hY v) b a=-fB (2*hY v) a b:=by unfold fB;omega
  rw [e1,Gp,e2] at e;split at e<;>rename_i c<;>first | rw [if_pos c];omega | rw [if_neg c];omega
section
variable {p:Pl} (h:Valid p)
include h
theorem Valid.PU:∃ D:Int,0<D/\∀ a∈p.ah,∀ k,k+1<(ak p a).length->hY ((ak p a).getD (k+1) aB)-hY ((ak p a).getD k aB)∣D:=by
 obtain ⟨D,h1,h2⟩:=aah (p.ah.flatMap fun a=>(List.range ((ak p a).length-1)).map fun k=>hY ((ak p a).getD (k+1) aB)-hY ((ak p a).getD k aB)) (fun x hx=>by
  obtain ⟨a,ha,hx⟩:=List.mem_flatMap.1 hx;obtain ⟨k,hk,rfl⟩:=List.mem_map.1 hx;have hk:=List.mem_range.1 hk;intro e;exact (h.distinct ha (k:=k) (by omega)).1 (mg (h.bW ha (by omega)) (h.bW ha (by omega)) (by omega)))
 exact ⟨D,h1,fun a ha k hk=>h2 _ (List.mem_flatMap.2 ⟨a,ha,List.mem_map.2 ⟨k,List.mem_range.2 (by omega),rfl⟩⟩)⟩
theorem Valid.Gt {z:Int->Int} {v:Pt} (hoff:vw p z v) {a:Ar} (ha:a∈p.ah) (hza:z a.id≠0) {k:Nat} (hk:k<(ak p a).length):(ak p a).getD k aB≠v:=by
 have hl:=fM p a;intro e;by_cases h1:k+1<(ak p a).length
 ·refine hoff a ha hza k h1 ?_;rw [e];exact ⟨CZ _ _,by omega⟩
 ·obtain ⟨m,rfl⟩:∃ m,k=m+1:=⟨k-1,by omega⟩;refine hoff a ha hza m (by omega) ?_;rw [e];exact ⟨C9 _ _,by omega⟩
theorem Valid.aft {z:Int->Int} {v:Pt} (nv:aU v=true) (hoff:vw p z v):yj p z (2*hY v):=fun a ha hza k hk e =>
 h.Gt hoff ha hza hk (mg (h.bW ha hk) nv (by omega))
theorem Valid.aak {z:Int->Int} (hz:iy p z) {D:Int} (hD:0<D) (hd:∀ a∈p.ah,∀ k,k+1<(ak p a).length->hY ((ak p a).getD (k+1) aB)-hY ((ak p a).getD k aB)∣D)
  {v:Pt} (nv:aU v=true) (hoff:vw p z v):oM p z v=nV (pz p z D (2*hY v)) (2*D*v.x):=by
 have t:=h.LP hz (fun u=>-(if u.y=v.y/\v.x<u.x then 1 else 0));have bS:nV (pz p z D (2*hY v)) (2*D*v.x)=bZ p z (fun a b=>if 2*D*v.x<xE D a b (2*hY v) then fB (2*hY v) a b else 0) :=
  LX p z D (2*hY v) (fun x s=>if 2*D*v.x<x then s else 0) (fun x c s=>by split<;>simp)
 rw [bS];have e:oM p z v=bZ p z (fun a b=>(if 2*D*v.x<xE D a b (2*hY v) then fB (2*hY v) a b else 0)+(-(if b.y=v.y/\v.x<b.x then 1 else 0) - -(if a.y=v.y/\v.x<a.x then 1 else 0))):=by
  refine Uw fun a ha hza k hk=>?_;have:=anF hD (h.bW ha (k:=k) (by omega)) (h.bW ha hk) nv (h.distinct ha hk).1 (hd a ha k hk) (h.Gt hoff ha hza (k:=k) (by omega)) (h.Gt hoff ha hza hk) (hoff a ha hza k hk)
  omega
 rw [e,I9 p z (fun a b=>if 2*D*v.x<xE D a b (2*hY v) then fB (2*hY v) a b else 0) (fun a b=>-(if b.y=v.y/\v.x<b.x then 1 else 0) - -(if a.y=v.y/\v.x<a.x then 1 else 0)),t,Int.add_zero]
theorem Valid.afu {z:Int->Int} (hz:iy p z) (hw:∀ a∈p.ah,z a.id≠0->(Hz p z (-a.id)=0/\Hz p z a.id=1)\/(Hz p z (-a.id)=1/\Hz p z a.id=0))
  {D:Int} (hD:0<D) (hd:∀ a∈p.ah,∀ k,k+1<(ak p a).length->hY ((ak p a).getD (k+1) aB)-hY ((ak p a).getD k aB)∣D) {τ:Int} (hτ:yj p z τ) (t:Int) :
  nV (pz p z D τ) t=0\/nV (pz p z D τ) t=1:=by
 obtain ⟨B,hB⟩:=aaf (pz p z D τ);exact aae (h.afn hz hw hD hd hτ) (B+t.natAbs) t (fun v hv _=>by have:=hB v hv;omega)
theorem Valid.aal {z:Int->Int} (hz:iy p z) (hw:∀ a∈p.ah,z a.id≠0->(Hz p z (-a.id)=0/\Hz p z a.id=1)\/(Hz p z (-a.id)=1/\Hz p z a.id=0))
  {v:Pt} (nv:aU v=true) (hoff:vw p z v):oM p z v=0\/oM p z v=1:=by
 obtain ⟨D,hD,hd⟩:=h.PU;rw [h.aak hz hD hd nv hoff];exact h.afu hz hw hD hd (h.aft nv hoff) _
theorem Valid.afv {z:Int->Int} (hz:iy p z) (hw:∀ a∈p.ah,z a.id≠0->(Hz p z (-a.id)=0/\Hz p z a.id=1)\/(Hz p z (-a.id)=1/\Hz p z a.id=0))
  {e:Int} (he:e∈aQ p):Hz p z e=0\/Hz p z e=1:=by
 obtain ⟨a,ha,hor⟩:=ji.1 he;by_cases h0:z a.id=0
 ·obtain ⟨D,hD,hd⟩:=h.PU;have hl:=fM p a;have hp:=h.yg hz ha;have hk:0+1<(ak p a).length:=by omega
  have hne:hY ((ak p a).getD 0 aB)≠hY ((ak p a).getD (0+1) aB):=fun e=>(h.distinct ha hk).1 (mg (h.bW ha (by omega)) (h.bW ha hk) e);have b:=(h.Uy hz hD hd (yj.odd z (τ:=2*min (hY ((ak p a).getD 0 aB)) (hY ((ak p a).getD (0+1) aB))+1) (by omega)) ha hk (by omega)).1;have c:=h.afu hz hw hD hd (yj.odd z (τ:=2*min (hY ((ak p a).getD 0 aB)) (hY ((ak p a).getD (0+1) aB))+1) (by omega)) (xE D ((ak p a).getD 0 aB) ((ak p a).getD (0+1) aB) (2*min (hY ((ak p a).getD 0 aB)) (hY ((ak p a).getD (0+1) aB))+1));rw [b] at c;rcases hor with rfl | rfl<;>split at c<;>omega
 ·have:=hw a ha h0
  rcases hor with rfl | rfl<;>omega
theorem Valid.tC {X:List Int} (hX:X∈bF p) (hp:0<dV p X) {r d:Int} (hr:r∈X) (hd:d∈aQ p) (hs:aK p p.ah.length d=aK p p.ah.length r):Hz p (aG X) d=if d∈X then 1 else 0:=by
 have h2:=(h.iE hX).2;obtain ⟨d0,g1,g2,g3⟩:=h.afo (h2 r hr);have hz:=h.qK hX;have hn:=(h.afp hX hr g1 g2 g3).1 hp;have PO:∀ a∈p.ah,aG X a.id≠0->aK p p.ah.length a.id=aK p p.ah.length r:=by
  intro a ha hne;have hma:a.id∈aQ p:=ji.2 ⟨a,ha,.inl rfl⟩;by_cases c1:a.id∈X
  · exact h.yt hX c1 hr
  ·by_cases c2:-a.id∈X
   · rw [<- h.wG hma];exact h.yt hX c2 hr
   · exact absurd (by unfold aG;rw [if_neg c1,if_neg c2];rfl) hne
 have h0:=g3 _ hz PO;have:=h.aaj hX hd g1 (by rw [hs,g2])
 rw [h0,if_neg hn] at this;omega
theorem Valid.Ep {X:List Int} (hX:X∈bF p) {r:Int} (hr:r∈X) {a:Ar} (ha:a∈p.ah) (hne:aG X a.id≠0):aK p p.ah.length a.id=aK p p.ah.length r/\aK p p.ah.length (-a.id)=aK p p.ah.length r:=by
 have hma:a.id∈aQ p:=ji.2 ⟨a,ha,.inl rfl⟩;have e:=h.wG hma;by_cases c1:a.id∈X
 ·have:=h.yt hX c1 hr
  exact ⟨this,by rw [e];exact this⟩
 ·by_cases c2:-a.id∈X
  ·have:=h.yt hX c2 hr
   exact ⟨by rw [<- e];exact this,this⟩
  · exact absurd (by unfold aG;rw [if_neg c1,if_neg c2];rfl) hne
theorem Valid.aam {X:List Int} (hX:X∈bF p) (hp:0<dV p X):∀ a∈p.ah,aG X a.id≠0->(Hz p (aG X) (-a.id)=0/\Hz p (aG X) a.id=1)\/(Hz p (aG X) (-a.id)=1/\Hz p (aG X) a.id=0):=by
 intro a ha hne;obtain ⟨r,-,-,-,hr⟩:=h.uI hX;have hma:a.id∈aQ p:=ji.2 ⟨a,ha,.inl rfl⟩;obtain ⟨s1,s2⟩:=h.Ep hX hr ha hne;rw [h.tC hX hp hr hma s1,h.tC hX hp hr (y8 hma) s2];unfold aG at hne;by_cases c1:a.id∈X<;>by_cases c2:-a.id∈X<;>simp [c1,c2] at hne ⊢
theorem Valid.Jf {X:List Int} (hX:X∈bF p) (hp:0<dV p X) {r e:Int} (hr:r∈X) (he:e∈aQ p) (hs:aK p p.ah.length e≠aK p p.ah.length r) :
  (Hz p (aG X) e=0\/Hz p (aG X) e=1)/\∀ d∈aQ p,aK p p.ah.length d=aK p p.ah.length e->Hz p (aG X) d=Hz p (aG X) e:=by
 refine ⟨h.afv (h.qK hX) (h.aam hX hp) he,fun d hd hde=>?_⟩;have:=h.aaj hX hd he hde
 have n1:e∉X:=fun c=>hs (h.yt hX c hr);have n2:d∉X:=fun c=>hs (by rw [<- hde];exact h.yt hX c hr);rw [if_neg n1,if_neg n2] at this;omega
theorem Valid.pF (z u:Int->Int) (d:Int):Hz p (fun i=>z i+u i) d=Hz p z d+Hz p u d:=Gs p z u _
theorem Valid.Es (z:Int->Int) (d:Int):Hz p (fun i=>-z i) d=-Hz p z d:=Gq p z _
theorem Valid.PV {z:Int->Int} (h0:∀ a∈p.ah,z a.id=0) (d:Int):Hz p z d=0:=PN fun a ha=>.inl (h0 a ha)
theorem Valid.afw {z:Int->Int} (hz:iy p z) (hne:∃ a∈p.ah,z a.id≠0):∃ a∈p.ah,z a.id≠0/\(Hz p z a.id=0\/Hz p z (-a.id)=0):=by
 obtain ⟨a,ha,hza⟩:=hne;obtain ⟨D,hD,hd⟩:=h.PU;have hl:=fM p a;have hk:0+1<(ak p a).length:=by omega
 have hnq:hY ((ak p a).getD 0 aB)≠hY ((ak p a).getD (0+1) aB):=fun e=>(h.distinct ha hk).1 (mg (h.bW ha (by omega)) (h.bW ha hk) e);obtain ⟨τ,hτ⟩:∃ τ,τ=2*min (hY ((ak p a).getD 0 aB)) (hY ((ak p a).getD (0+1) aB))+1:=⟨_,rfl⟩;have hfr:yj p z τ:=yj.odd z (by omega);have hs0:fB τ ((ak p a).getD 0 aB) ((ak p a).getD (0+1) aB)≠0:=by
  unfold fB;by_cases c:hY ((ak p a).getD 0 aB)<hY ((ak p a).getD (0+1) aB)
  · rw [if_pos (by omega),if_neg (by omega)];omega
  · rw [if_neg (by omega),if_pos (by omega)];omega
 have hmem:(xE D ((ak p a).getD 0 aB) ((ak p a).getD (0+1) aB) τ,z a.id*fB τ ((ak p a).getD 0 aB) ((ak p a).getD (0+1) aB))∈pz p z D τ :=
  List.mem_flatMap.2 ⟨a,ha,List.mem_map.2 ⟨0,List.mem_range.2 (by omega),rfl⟩⟩
 obtain ⟨u,hu,hmax⟩:=aai (fun u:Int×Int=>u.1) ((pz p z D τ).filter (fun u=>decide (u.2≠0))) (by
  intro e;have:(xE D ((ak p a).getD 0 aB) ((ak p a).getD (0+1) aB) τ,z a.id*fB τ ((ak p a).getD 0 aB) ((ak p a).getD (0+1) aB))∈(pz p z D τ).filter (fun u=>decide (u.2≠0)) :=
   List.mem_filter.2 ⟨hmem,by
    rw [decide_eq_true_eq];intro e;rcases Int.mul_eq_zero.1 e with e | e
    · exact hza e
    · exact hs0 e⟩
  rw [e] at this
  cases this)
 rw [List.mem_filter,decide_eq_true_eq] at hu;obtain ⟨hu,hu0⟩:=hu;have hb0:nV (pz p z D τ) u.1=0:=by
  refine wE _ _ fun v hv=>?_;by_cases c:v.2=0
  · rw [c];split<;>rfl
  ·have:=hmax v (List.mem_filter.2 ⟨hv,by rw [decide_eq_true_eq];exact c⟩)
   rw [if_neg (by omega)]
 obtain ⟨c,hc,hu⟩:=List.mem_flatMap.1 hu;obtain ⟨k,hk2,rfl⟩:=List.mem_map.1 hu;have hk2:=List.mem_range.1 hk2;simp only at hu0 hb0;have hz0:z c.id≠0:=fun e=>hu0 (by rw [e,Int.zero_mul]);have hs1:fB τ ((ak p c).getD k aB) ((ak p c).getD (k+1) aB)≠0:=fun e=>hu0 (by rw [e,Int.mul_zero]);have hsp:=Ux (hfr c hc hz0 k (by omega)) (hfr c hc hz0 (k+1) (by omega)) hs1;have b:=(h.Uy hz hD hd hfr hc (k:=k) (by omega) (by
  rcases hsp with ⟨g1,g2,-⟩ | ⟨g1,g2,-⟩
  · exact .inl ⟨g1,g2⟩
  · exact .inr ⟨g1,g2⟩)).1
 rw [hb0] at b;refine ⟨c,hc,hz0,?_⟩;split at b
 · exact .inr b.symm
 · exact .inl b.symm
theorem Valid.anH {X Y:List Int} (hX:X∈bF p) (dQ:Y∈bF p) (zh:0<dV p X) (zi:0<dV p Y) (Di:X≠Y) {v:Pt} (nv:aU v=true)
  (oX:vw p (aG X) v) (oY:vw p (aG Y) v) (wX:oM p (aG X) v=1) (wY:oM p (aG Y) v=1):dV p X≠dV p Y:=by
 obtain ⟨x,hxd,-,-,hx⟩:=h.uI hX;obtain ⟨y,LY,-,-,hy⟩:=h.uI dQ;have zX:=h.qK hX;have zY:=h.qK dQ;have both:∀ d,¬ (d∈X/\d∈Y):=fun d hd=>Di (h.Eo hX dQ hd.1 hd.2);have dm:∀ a∈p.ah,a.id∈aQ p/\-a.id∈aQ p:=fun a ha=>⟨ji.2 ⟨a,ha,.inl rfl⟩,ji.2 ⟨a,ha,.inr rfl⟩⟩;have sup:∀ a∈p.ah,aG X a.id+aG Y a.id≠0->(aK p p.ah.length a.id=aK p p.ah.length x/\aK p p.ah.length (-a.id)=aK p p.ah.length x)\/(aK p p.ah.length a.id=aK p p.ah.length y/\aK p p.ah.length (-a.id)=aK p p.ah.length y):=by
  intro a ha hne;by_cases c:aG X a.id=0
  · exact .inr (h.Ep dQ hy ha (by omega))
  · exact .inl (h.Ep hX hx ha c)
 have afx:vw p (fun i=>aG X i+aG Y i) v:=fun a ha hne k hk=>by
  have hne:aG X a.id+aG Y a.id≠0:=hne;by_cases c:aG X a.id=0
  · exact oY a ha (by omega) k hk
  · exact oX a ha c k hk
 have wS:oM p (fun i=>aG X i+aG Y i) v=2:=by unfold oM at *;rw [Gs,wX,wY];rfl
 have afy:¬ ∀ a∈p.ah,aG X a.id+aG Y a.id≠0->(Hz p (aG X) (-a.id)+Hz p (aG Y) (-a.id)=0/\Hz p (aG X) a.id+Hz p (aG Y) a.id=1)\/(Hz p (aG X) (-a.id)+Hz p (aG Y) (-a.id)=1/\Hz p (aG X) a.id+Hz p (aG Y) a.id=0):=by
  intro hw;have:=h.aal (zX.add zY) (fun a ha hne=>by rw [h.pF,h.pF];exact hw a ha hne) nv afx
  omega
 have jump:∀ a∈p.ah,Hz p (aG X) a.id-Hz p (aG X) (-a.id)=aG X a.id/\Hz p (aG Y) a.id-Hz p (aG Y) (-a.id)=aG Y a.id:=fun a ha=>⟨h.yg zX ha,h.yg zY ha⟩;by_cases hc:aK p p.ah.length x=aK p p.ah.length y
 ·exfalso;refine afy fun a ha hne=>?_;have hs:aK p p.ah.length a.id=aK p p.ah.length x/\aK p p.ah.length (-a.id)=aK p p.ah.length x:=by
   rcases sup a ha hne with g | g
   · exact g
   · rw [hc];exact g
  have j:=jump a ha;have a1:=h.tC hX zh hx (dm a ha).1 hs.1;have a2:=h.tC hX zh hx (dm a ha).2 hs.2;have a3:=h.tC dQ zi hy (dm a ha).1 (hs.1.trans hc);have a4:=h.tC dQ zi hy (dm a ha).2 (hs.2.trans hc);have b1:=both a.id;have b2:=both (-a.id);have t1:Hz p (aG X) a.id+Hz p (aG Y) a.id=0\/Hz p (aG X) a.id+Hz p (aG Y) a.id=1:=by
   rw [a1,a3];by_cases c1:a.id∈X<;>by_cases c2:a.id∈Y<;>simp only [c1,c2,if_true,if_false] at b1 ⊢ <;> simp at b1 ⊢
  have t2:Hz p (aG X) (-a.id)+Hz p (aG Y) (-a.id)=0\/Hz p (aG X) (-a.id)+Hz p (aG Y) (-a.id)=1:=by
   rw [a2,a4];by_cases c1:-a.id∈X<;>by_cases c2:-a.id∈Y<;>simp only [c1,c2,if_true,if_false] at b2 ⊢ <;> simp at b2 ⊢
  omega
 ·obtain ⟨α01,αc⟩:=h.Jf hX zh hx LY (fun e=>hc e.symm);obtain ⟨β01,βc⟩:=h.Jf dQ zi hy hxd hc;have pG:∀ d∈aQ p,aK p p.ah.length d=aK p p.ah.length x->Hz p (aG X) d=(if d∈X then 1 else 0)/\Hz p (aG Y) d=Hz p (aG Y) x:=fun d hd hs=>⟨h.tC hX zh hx hd hs,βc d hd hs⟩;have qL:∀ d∈aQ p,aK p p.ah.length d=aK p p.ah.length y->Hz p (aG Y) d=(if d∈Y then 1 else 0)/\Hz p (aG X) d=Hz p (aG X) y:=fun d hd hs=>⟨h.tC dQ zi hy hd hs,αc d hd hs⟩;generalize Hz p (aG X) y=α at *;generalize Hz p (aG Y) x=β at *;have jC:∀ (P:Prop) [Decidable P],(if P then (1:Int) else 0)=0\/(if P then (1:Int) else 0)=1:=fun P _=>by split<;>simp
  have diff:∀ {X Y:List Int} {x:Int},X∈bF p->Y∈bF p->iy p (aG X)->iy p (aG Y)->x∈X->x∈aQ p ->
    (∀ a∈p.ah,aG X a.id + -aG Y a.id≠0->(Hz p (aG X) (-a.id)-Hz p (aG Y) (-a.id)=0\/Hz p (aG X) (-a.id)-Hz p (aG Y) (-a.id)=1)/\(Hz p (aG X) a.id-Hz p (aG Y) a.id=0\/Hz p (aG X) a.id-Hz p (aG Y) a.id=1)) ->
    Hz p (aG X) x-Hz p (aG Y) x=1->dV p Y<dV p X:=by
   intro X Y x hX dQ zX zY hx hxd hw h1;have hp:=(h.PK (zX.add zY.neg) (fun a ha hne=>by
    have j1:=h.yg zX ha;have j2:=h.yg zY ha;have hw:=hw a ha hne;have hne:aG X a.id + -aG Y a.id≠0:=hne;rw [h.pF,h.pF,h.Es,h.Es];omega)).2 (Classical.byContradiction fun hno=>by
     have:=h.PV (z:=fun i=>aG X i + -aG Y i) (fun a ha=>Classical.byContradiction fun e=>hno ⟨a,ha,e⟩) x
     rw [h.pF,h.Es] at this;omega)
   rw [Gs,Gq,<- h.Je hX,<- h.Je dQ] at hp;omega
  have auZ:∀ {z:Int},True->True:=fun h=>h;rcases α01 with α0 | α1<;>rcases β01 with β0 | β1
  ·exfalso;refine afy fun a ha hne=>?_;have j:=jump a ha;rcases sup a ha hne with g | g
   ·obtain ⟨e1,e2⟩:=pG _ (dm a ha).1 g.1;obtain ⟨e3,e4⟩:=pG _ (dm a ha).2 g.2;have i1:=jC (a.id∈X);have i2:=jC (-a.id∈X);omega
   ·obtain ⟨e1,e2⟩:=qL _ (dm a ha).1 g.1;obtain ⟨e3,e4⟩:=qL _ (dm a ha).2 g.2;have i1:=jC (a.id∈Y);have i2:=jC (-a.id∈Y);omega
  ·have:=diff dQ hX zY zX hy LY (fun a ha hne=>by
    have hs:(aK p p.ah.length a.id=aK p p.ah.length x/\aK p p.ah.length (-a.id)=aK p p.ah.length x)\/(aK p p.ah.length a.id=aK p p.ah.length y/\aK p p.ah.length (-a.id)=aK p p.ah.length y):=by
     by_cases c:aG X a.id=0
     · exact .inr (h.Ep dQ hy ha (by omega))
     · exact .inl (h.Ep hX hx ha c)
    rcases hs with g | g
    ·obtain ⟨e1,e2⟩:=pG _ (dm a ha).1 g.1;obtain ⟨e3,e4⟩:=pG _ (dm a ha).2 g.2;have i1:=jC (a.id∈X);have i2:=jC (-a.id∈X);omega
    ·obtain ⟨e1,e2⟩:=qL _ (dm a ha).1 g.1;obtain ⟨e3,e4⟩:=qL _ (dm a ha).2 g.2;have i1:=jC (a.id∈Y);have i2:=jC (-a.id∈Y);omega) (by
    obtain ⟨e1,e2⟩:=qL y LY rfl;rw [e1,e2,if_pos hy];omega)
   omega
  ·have:=diff hX dQ zX zY hx hxd (fun a ha hne=>by
    have hs:(aK p p.ah.length a.id=aK p p.ah.length x/\aK p p.ah.length (-a.id)=aK p p.ah.length x)\/(aK p p.ah.length a.id=aK p p.ah.length y/\aK p p.ah.length (-a.id)=aK p p.ah.length y):=by
     by_cases c:aG X a.id=0
     · exact .inr (h.Ep dQ hy ha (by omega))
     · exact .inl (h.Ep hX hx ha c)
    rcases hs with g | g
    ·obtain ⟨e1,e2⟩:=pG _ (dm a ha).1 g.1;obtain ⟨e3,e4⟩:=pG _ (dm a ha).2 g.2;have i1:=jC (a.id∈X);have i2:=jC (-a.id∈X);omega
    ·obtain ⟨e1,e2⟩:=qL _ (dm a ha).1 g.1;obtain ⟨e3,e4⟩:=qL _ (dm a ha).2 g.2;have i1:=jC (a.id∈Y);have i2:=jC (-a.id∈Y);omega) (by
    obtain ⟨e1,e2⟩:=pG x hxd rfl;rw [e1,e2,if_pos hx];omega)
   omega
  ·exfalso;obtain ⟨a,ha,hne,hor⟩:=h.afw (zX.add zY) (Classical.byContradiction fun hno=>by
    have:=h.PV (z:=fun i=>aG X i+aG Y i) (fun a ha=>Classical.byContradiction fun e=>hno ⟨a,ha,e⟩) x
    rw [h.pF] at this;obtain ⟨e1,e2⟩:=pG x hxd rfl;rw [e1,e2,if_pos hx] at this;omega)
   rw [h.pF,h.pF] at hor;rcases sup a ha hne with g | g
   ·obtain ⟨e1,e2⟩:=pG _ (dm a ha).1 g.1;obtain ⟨e3,e4⟩:=pG _ (dm a ha).2 g.2;have i1:=jC (a.id∈X);have i2:=jC (-a.id∈X);omega
   ·obtain ⟨e1,e2⟩:=qL _ (dm a ha).1 g.1;obtain ⟨e3,e4⟩:=qL _ (dm a ha).2 g.2;have i1:=jC (a.id∈Y);have i2:=jC (-a.id∈Y);omega
end
def gK (p:Pl) (d:Int):List Pt:=match findAr p.ah (gJ d) with
 | some a=>ak p a
 | none=>[]
def fU (P:List Pt):List (Pt×Pt):=(List.range (P.length-1)).map fun k=>(P.getD k aB,P.getD (k+1) aB)
def bP (p:Pl) (X:List Int):List (Pt×Pt):=X.flatMap fun d=>fU (gK p d)
def lH (v a b:Pt):Bool:=decide ((a.y<=v.y/\v.y<b.y/\0<tw a b v)\/(b.y<=v.y/\v.y<a.y/\tw a b v<0))
def Dj (v:Pt) (s:Bool×Bool) (q:Pt×Pt):Bool×Bool:=if fJ q.1 q.2 v then (true,s.2) else if lH v q.1 q.2 then (s.1,!s.2) else s
def LZ (v:Pt) (l:List (Pt×Pt)):Bool×Bool:=l.foldl (Dj v) (false,false)
def encS (p:Pl) (X:List Int) (v:Pt):Bool:=(LZ v (bP p X)).2 && !(LZ v (bP p X)).1
theorem afz (v a b:Pt):lH v a b=decide (wH v a b≠0):=by
 have t:tw b a v=-tw a b v:=by unfold tw;grind
 unfold lH wH;rw [t];by_cases c1:a.y<=v.y/\v.y<b.y/\0<tw a b v
 · rw [if_pos c1,decide_eq_true (.inl c1)];rfl
 ·rw [if_neg c1];by_cases c2:b.y<=v.y/\v.y<a.y/\tw a b v<0
  · rw [if_pos ⟨c2.1,c2.2.1,by omega⟩,decide_eq_true (.inr c2)];rfl
  · rw [if_neg (by omega),decide_eq_false (by rintro (h | h);exact c1 h;exact c2 h)];rfl
theorem afA (v:Pt):∀ (l:List (Pt×Pt)) (s:Bool×Bool),(l.foldl (Dj v) s).1=(s.1 || l.any fun q=>fJ q.1 q.2 v)
 | [],s=>by simp
 | q::l,s=>by
  rw [List.foldl_cons,afA v l,List.any_cons];unfold Dj;by_cases h:fJ q.1 q.2 v=true
  · rw [if_pos h,h];simp
  ·rw [if_neg h];split<;>simp [h]
theorem afB (v:Pt):∀ (l:List (Pt×Pt)) (s:Bool×Bool),(l.any fun q=>fJ q.1 q.2 v)=false ->
  (l.foldl (Dj v) s).2=(s.2 != decide ((l.map fun q=>if lH v q.1 q.2 then (1:Int) else 0).sum % 2=1))
 | [],s,_=>by simp
 | q::l,s,h=>by
  rw [List.any_cons,Bool.or_eq_false_iff] at h;rw [List.foldl_cons,afB v l _ h.2,List.map_cons,List.sum_cons];unfold Dj;rw [if_neg (by rw [h.1];decide)];generalize (l.map fun q=>if lH v q.1 q.2 then (1:Int) else 0).sum=n
  cases hp:lH v q.1 q.2
  · rw [if_neg (by decide),if_neg (by decide),Int.zero_add]
  ·rw [if_pos rfl,if_pos rfl];by_cases hn:n % 2=1
   · rw [decide_eq_true hn,decide_eq_false (by omega)];cases s.2<;>rfl
   · rw [decide_eq_false hn,decide_eq_true (by omega)];cases s.2<;>rfl
theorem aan (v:Pt) (l:List (Pt×Pt)):((LZ v l).2 && !(LZ v l).1)=(!(l.any fun q=>fJ q.1 q.2 v) && decide ((l.map fun q=>if lH v q.1 q.2 then (1:Int) else 0).sum % 2=1)):=by
 unfold LZ;rw [afA]
 cases h:l.any fun q=>fJ q.1 q.2 v
 · rw [afB v l _ h];simp
 · simp
theorem UD {α:Type} (l:List α) (f g:α->Int) (h:∀ x∈l,f x % 2=g x % 2):(l.map f).sum % 2=(l.map g).sum % 2:=by
 induction l with
 | nil=>rfl
 | cons a l ih =>
  rw [List.map_cons,List.sum_cons,List.map_cons,List.sum_cons];have h1:=h a List.mem_cons_self;have h2:=ih fun x hx=>h x (List.mem_cons_of_mem _ hx);omega
theorem Et {a b v:Pt} (na:aU a=true) (nb:aU b=true) (nv:aU v=true):fJ a b v=true↔iT a b v:=by
 unfold fJ iT
 have:fE [a,b,v]=true:=by simp [fE,na,nb,nv]
 rw [this];simp [and_assoc]
section
variable {p:Pl} (h:Valid p)
include h
theorem Valid.AY {d:Int} (hd:d∈aQ p):∃ a∈p.ah,(d=a.id\/d=-a.id)/\gK p d=ak p a:=by
 obtain ⟨a,ha,e⟩:=ji.1 hd;have hid:=(h.jB ha).1;refine ⟨a,ha,e,?_⟩;unfold gK
 have:gJ d=a.id:=by unfold gJ;rcases e with rfl | rfl<;>split<;>omega
 rw [this,h.find ha]
theorem Valid.PW {X:List Int} (hX:∀ d∈X,d∈aQ p) {q:Pt×Pt} (hq:q∈bP p X):∃ a∈p.ah,(a.id∈X\/-a.id∈X)/\∃ k,k+1<(ak p a).length/\q=((ak p a).getD k aB,(ak p a).getD (k+1) aB):=by
 obtain ⟨d,hd,hq⟩:=List.mem_flatMap.1 hq;obtain ⟨a,ha,e,hp⟩:=h.AY (hX d hd);rw [hp] at hq;obtain ⟨k,hk,rfl⟩:=List.mem_map.1 hq;have hk:=List.mem_range.1 hk;refine ⟨a,ha,?_,k,by omega,rfl⟩;rcases e with rfl | rfl
 · exact .inl hd
 · exact .inr hd
theorem Valid.UE {X:List Int} {a:Ar} (ha:a∈p.ah) (hm:a.id∈X\/-a.id∈X) {k:Nat} (hk:k+1<(ak p a).length):((ak p a).getD k aB,(ak p a).getD (k+1) aB)∈bP p X:=by
 have hid:=(h.jB ha).1;have e:∀ d,(d=a.id\/d=-a.id)->gK p d=ak p a:=fun d e=>by
  unfold gK
  have:gJ d=a.id:=by unfold gJ;rcases e with rfl | rfl<;>split<;>omega
  rw [this,h.find ha]
 rcases hm with hm | hm
 · exact List.mem_flatMap.2 ⟨_,hm,by rw [e _ (.inl rfl)];exact List.mem_map.2 ⟨k,List.mem_range.2 (by omega),rfl⟩⟩
 · exact List.mem_flatMap.2 ⟨_,hm,by rw [e _ (.inr rfl)];exact List.mem_map.2 ⟨k,List.mem_range.2 (by omega),rfl⟩⟩
theorem Valid.anI {X:List Int} (hX:X∈bF p) (v:Pt):((bP p X).map fun q=>if lH v q.1 q.2 then (1:Int) else 0).sum % 2=oM p (aG X) v % 2:=by
 obtain ⟨-,h2⟩:=h.iE hX;have e1:((bP p X).map fun q=>if lH v q.1 q.2 then (1:Int) else 0).sum=(X.map fun d=>jY (fun a b=>if lH v a b then (1:Int) else 0) (gK p d)).sum:=by
  unfold bP;rw [List.map_flatMap,aad];refine iC _ _ _ fun d _=>?_;unfold fU jY;rw [List.map_map];rfl
 rw [e1,h.UC hX];unfold oM bZ;refine UD _ _ _ fun a ha=>?_;have hid:=(h.jB ha).1;have p1:gK p a.id=ak p a:=by
  unfold gK;rw [show gJ a.id=a.id by unfold gJ;split<;>omega,h.find ha]
 have p2:gK p (-a.id)=ak p a:=by
  unfold gK;rw [show gJ (-a.id)=a.id by unfold gJ;split<;>omega,h.find ha]
 rw [p1,p2];have e:jY (fun a b=>if lH v a b then (1:Int) else 0) (ak p a) % 2=jY (wH v) (ak p a) % 2:=by
  unfold jY;refine UD _ _ _ fun k _=>?_
  show (if lH v ((ak p a).getD k aB) ((ak p a).getD (k+1) aB)=true then (1:Int) else 0) % 2=_
  rw [afz];unfold wH;split
  · rfl
  · split<;>rfl
 generalize jY (fun a b=>if lH v a b then (1:Int) else 0) (ak p a)=s at *;generalize jY (wH v) (ak p a)=t at *;unfold aG;by_cases c1:a.id∈X<;>by_cases c2:-a.id∈X<;>simp only [c1,c2,if_true,if_false]<;>omega
theorem Valid.Jg {X:List Int} (hX:X∈bF p) (hp:0<dV p X) {v:Pt} (nv:aU v=true) :
  encS p X v=true↔(∀ q∈bP p X,fJ q.1 q.2 v=false)/\oM p (aG X) v=1:=by
 obtain ⟨-,h2⟩:=h.iE hX;unfold encS;rw [aan,Bool.and_eq_true,decide_eq_true_eq,h.anI hX,Bool.not_eq_true',List.any_eq_false];constructor
 ·rintro ⟨g1,g2⟩;have g1':∀ q∈bP p X,fJ q.1 q.2 v=false:=fun q hq=>by simpa using g1 q hq
  have hoff:vw p (aG X) v:=fun a ha hne k hk hon=>by
   have hm:a.id∈X\/-a.id∈X:=by
    by_cases c1:a.id∈X
    · exact .inl c1
    ·by_cases c2:-a.id∈X
     · exact .inr c2
     · exact absurd (by unfold aG;rw [if_neg c1,if_neg c2];rfl) hne
   have:=g1' _ (h.UE ha hm hk)
   rw [(Et (h.bW ha (by omega)) (h.bW ha hk) nv).2 hon] at this
   cases this
  have:=h.aal (h.qK hX) (h.aam hX hp) nv hoff
  exact ⟨g1',by omega⟩
 ·rintro ⟨g1,g2⟩;exact ⟨fun q hq=>by rw [g1 q hq];decide,by rw [g2];rfl⟩
theorem Valid.L6 {X:List Int} {v:Pt} (nv:aU v=true) (g:∀ q∈bP p X,fJ q.1 q.2 v=false):vw p (aG X) v:=fun a ha hne k hk hon=>by
 have hm:a.id∈X\/-a.id∈X:=by
  by_cases c1:a.id∈X
  · exact .inl c1
  ·by_cases c2:-a.id∈X
   · exact .inr c2
   · exact absurd (by unfold aG;rw [if_neg c1,if_neg c2];rfl) hne
 have:=g _ (h.UE ha hm hk)
 rw [(Et (h.bW ha (by omega)) (h.bW ha hk) nv).2 hon] at this
 cases this
theorem Valid.anJ {X Y:List Int} (hX:X∈bF p) (dQ:Y∈bF p) (zh:0<dV p X) (zi:0<dV p Y) {v:Pt} (nv:aU v=true)
  (eX:encS p X v=true) (eY:encS p Y v=true) (e:dV p X=dV p Y):X=Y:=by
 obtain ⟨g1,g2⟩:=(h.Jg hX zh nv).1 eX;obtain ⟨g3,g4⟩:=(h.Jg dQ zi nv).1 eY;exact Classical.byContradiction fun hne=>h.anH hX dQ zh zi hne nv (h.L6 nv g1) (h.L6 nv g3) g2 g4 e
end
section
variable {α:Type} (E:α->Bool) (t:α->Int)
def AZ (b:Option α) (x:α):Option α:=if (E x && (match b with | none=>true | some y=>decide (t x<t y)))=true then some x else b
def jZ (l:List α):Option α:=l.foldl (AZ E t) none
theorem Gu (l:List α) (x:α):jZ E t (l++[x])=AZ E t (jZ E t l) x:=by unfold jZ;rw [List.foldl_append];rfl
theorem aao {P:List α->Prop} (h0:P []) (h1:∀ l x,P l->P (l++[x])) (l:List α):P l:=by
 have:∀ k,k<=l.length->P (l.take k):=by
  intro k
  induction k with
  | zero=>intro _;exact h0
  | succ k ih=>intro hk;rw [List.take_succ_eq_append_getElem (show k<l.length by omega)];exact h1 _ _ (ih (by omega))
 have:=this l.length (Nat.le_refl _)
 rwa [List.take_length] at this
theorem UF (l:List α):match jZ E t l with
  | none=>∀ x∈l,E x=false
  | some x=>x∈l/\E x=true/\∀ y∈l,E y=true->t x<=t y:=by
 induction l using aao with
 | h0=>exact fun x hx=>by cases hx
 | h1 l x ih =>
  rw [Gu];unfold AZ
  cases hb:jZ E t l with
  | none =>
   rw [hb] at ih;simp only [Bool.and_true];by_cases hE:E x=true
   ·rw [if_pos hE];refine ⟨by simp,hE,fun y hy Jh=>?_⟩;rcases List.mem_append.1 hy with hy | hy
    · rw [ih y hy] at Jh;cases Jh
    · rw [List.mem_singleton] at hy;subst hy;exact Int.le_refl _
   ·rw [if_neg hE];intro y hy;rcases List.mem_append.1 hy with hy | hy
    · exact ih y hy
    · rw [List.mem_singleton] at hy;subst hy;simpa using hE
  | some z =>
   rw [hb] at ih;simp only [Bool.and_eq_true,decide_eq_true_eq];by_cases hE:E x=true/\t x<t z
   ·rw [if_pos hE];refine ⟨by simp,hE.1,fun y hy Jh=>?_⟩;rcases List.mem_append.1 hy with hy | hy
    · have:=ih.2.2 y hy Jh;omega
    · rw [List.mem_singleton] at hy;subst hy;exact Int.le_refl _
   ·rw [if_neg hE];refine ⟨List.mem_append_left _ ih.1,ih.2.1,fun y hy Jh=>?_⟩;rcases List.mem_append.1 hy with hy | hy
    · exact ih.2.2 y hy Jh
    ·rw [List.mem_singleton] at hy;subst hy;have:¬ t y<t z:=fun h=>hE ⟨Jh,h⟩
     omega
theorem anK {l:List α}:jZ E t l=none↔∀ x∈l,E x=false:=by
 have:=UF E t l
 cases h:jZ E t l with
 | none=>rw [h] at this;exact ⟨fun _=>this,fun _=>rfl⟩
 | some x =>
  rw [h] at this;refine ⟨fun h=>(by cases h),fun h0=>?_⟩;have h1:=h0 x this.1;rw [this.2.1] at h1
  cases h1
theorem Dk {l:List α} {x:α} (h:jZ E t l=some x):x∈l/\E x=true/\∀ y∈l,E y=true->t x<=t y:=by
 have:=UF E t l
 rw [h] at this;exact this
end
end Go.Proofs.YtialfdomhoojiaaGreat
