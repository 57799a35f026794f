import Derived.Test.YtialfdomhoojiaaGreatJ31
import Derived.Test.YtialfdomhoojiaaGreatRegLB
import Derived.Test.YtialfdomhoojiaaGreatJ09
import Derived.Test.YtialfdomhoojiaaGreatJ29
import Derived.Test.YtialfdomhoojiaaGreatJ19
set_option linter.unusedSimpArgs false
set_option linter.unusedVariables false
namespace Go.Proofs.YtialfdomhoojiaaGreat
open Go.RowKit
set_option linter.unusedSectionVars false
def um (p:Pl) (v:Pt):Int×Int:=match p.nodes.find? (fun n=>decide (n.pt=v)) with
 | some n=>(1,n.id)
 | none=>match p.ah.find? (kY p v) with
  | some a=>(2,a.id)
  | none=>(0,ku p (dW p v))
theorem abX {p:Pl} {v:Pt} (h0:iV p=0) (h1:lZ v=true):ou p v=((um p v).1,(um p v).2,0):=by
 unfold ou um;rw [if_neg (by simpa using h0),if_neg (by simp [h1])]
 cases p.nodes.find? (fun n=>decide (n.pt=v)) with
 | some n=>rfl
 | none =>
  simp only
  cases p.ah.find? (kY p v)<;>rfl
theorem ais:∀ (l:List Pt) (x:Bx),let b:=l.foldl qH x;
  (b.x0<=x.x0/\b.y0<=x.y0/\x.x1<=b.x1/\x.y1<=b.y1)/\(∀ v∈l,b.x0<=v.x/\b.y0<=v.y/\v.x<=b.x1/\v.y<=b.y1) /\
  (b.x0=x.x0\/∃ v∈l,b.x0=v.x)/\(b.y0=x.y0\/∃ v∈l,b.y0=v.y)/\(b.x1=x.x1\/∃ v∈l,b.x1=v.x)/\(b.y1=x.y1\/∃ v∈l,b.y1=v.y)
 | [],x=>⟨⟨Int.le_refl _,Int.le_refl _,Int.le_refl _,Int.le_refl _⟩,fun v hv=>(by cases hv),.inl rfl,.inl rfl,.inl rfl,.inl rfl⟩
 | v::l,x=>by
  have ih:=ais l (qH x v);simp only [List.foldl_cons];generalize l.foldl qH (qH x v)=b at *;obtain ⟨i1,i2,i3,i4,i5,i6⟩:=ih;unfold qH at i1 i3 i4 i5 i6;simp only at i1 i3 i4 i5 i6;have j1:b.x0<=x.x0/\b.x0<=v.x:=by clear i2 i3 i4 i5 i6;omega
  have j2:b.y0<=x.y0/\b.y0<=v.y:=by clear i2 i3 i4 i5 i6;omega
  have j3:x.x1<=b.x1/\v.x<=b.x1:=by clear i2 i3 i4 i5 i6;omega
  have j4:x.y1<=b.y1/\v.y<=b.y1:=by clear i2 i3 i4 i5 i6;omega
  refine ⟨⟨j1.1,j2.1,j3.1,j4.1⟩,fun u hu=>?_,?_,?_,?_,?_⟩
  ·rcases List.mem_cons.1 hu with rfl | hu
   · exact ⟨j1.2,j2.2,j3.2,j4.2⟩
   · exact i2 u hu
  ·clear i2 i4 i5 i6;rcases i3 with e | ⟨u,hu,e⟩
   ·rcases Int.le_total x.x0 v.x with c | c
    · exact .inl (by omega)
    · exact .inr ⟨v,List.mem_cons_self,by omega⟩
   · exact .inr ⟨u,List.mem_cons_of_mem _ hu,e⟩
  ·clear i2 i3 i5 i6;rcases i4 with e | ⟨u,hu,e⟩
   ·rcases Int.le_total x.y0 v.y with c | c
    · exact .inl (by omega)
    · exact .inr ⟨v,List.mem_cons_self,by omega⟩
   · exact .inr ⟨u,List.mem_cons_of_mem _ hu,e⟩
  ·clear i2 i3 i4 i6;rcases i5 with e | ⟨u,hu,e⟩
   ·rcases Int.le_total x.x1 v.x with c | c
    · exact .inr ⟨v,List.mem_cons_self,by omega⟩
    · exact .inl (by omega)
   · exact .inr ⟨u,List.mem_cons_of_mem _ hu,e⟩
  ·clear i2 i3 i4 i5;rcases i6 with e | ⟨u,hu,e⟩
   ·rcases Int.le_total x.y1 v.y with c | c
    · exact .inr ⟨v,List.mem_cons_self,by omega⟩
    · exact .inl (by omega)
   · exact .inr ⟨u,List.mem_cons_of_mem _ hu,e⟩
structure Rt (b:Bx) (l:List Pt):Prop where
 all:∀ v∈l,b.x0<=v.x/\b.y0<=v.y/\v.x<=b.x1/\v.y<=b.y1
 x0:∃ v∈l,b.x0=v.x
 y0:∃ v∈l,b.y0=v.y
 x1:∃ v∈l,b.x1=v.x
 y1:∃ v∈l,b.y1=v.y
theorem abY {l:List Pt} (h:l≠[]):Rt (rH l) l:=by
 cases l with
 | nil=>exact absurd rfl h
 | cons u l =>
  obtain ⟨-,i2,i3,i4,i5,i6⟩:=ais (u::l) ⟨u.x,u.y,u.x,u.y⟩;exact ⟨i2,i3.elim (fun e=>⟨u,List.mem_cons_self,e⟩) id,i4.elim (fun e=>⟨u,List.mem_cons_self,e⟩) id,i5.elim (fun e=>⟨u,List.mem_cons_self,e⟩) id,i6.elim (fun e=>⟨u,List.mem_cons_self,e⟩) id⟩
theorem ar1 {b c:Bx} {l m:List Pt} (hb:Rt b l) (hc:Rt c m) (h:∀ v,v∈l↔v∈m):b.x0=c.x0/\b.y0=c.y0/\b.x1=c.x1/\b.y1=c.y1:=by
 obtain ⟨b0,⟨u1,m1,e1⟩,⟨u2,m2,e2⟩,⟨u3,m3,e3⟩,⟨u4,m4,e4⟩⟩:=hb;obtain ⟨c0,⟨v1,n1,f1⟩,⟨v2,n2,f2⟩,⟨v3,n3,f3⟩,⟨v4,n4,f4⟩⟩:=hc;have a1:=c0 u1 ((h _).1 m1);have a2:=c0 u2 ((h _).1 m2);have a3:=c0 u3 ((h _).1 m3);have a4:=c0 u4 ((h _).1 m4);have d1:=b0 v1 ((h _).2 n1);have d2:=b0 v2 ((h _).2 n2);have d3:=b0 v3 ((h _).2 n3);have d4:=b0 v4 ((h _).2 n4);omega
theorem Rt.le {b:Bx} {l:List Pt} (h:Rt b l):b.x0<=b.x1/\b.y0<=b.y1:=by
 obtain ⟨h0,⟨u,hu,e⟩,-⟩:=h;have:=h0 u hu
 omega
theorem ar2 {P:List Pt} (h:2<=P.length) (v:Pt):v∈kE (fU P)↔v∈P:=by
 unfold kE;rw [List.mem_flatMap];constructor
 ·rintro ⟨q,hq,hv⟩;unfold fU at hq;obtain ⟨k,hk,rfl⟩:=List.mem_map.1 hq;rw [List.mem_range] at hk;have g:∀ j,j<P.length->P.getD j aB∈P:=fun j hj=>by
   rw [List.getD_eq_getElem?_getD,List.getElem?_eq_getElem hj];exact List.getElem_mem hj
  simp only [List.mem_cons,List.not_mem_nil,or_false] at hv;rcases hv with rfl | rfl
  · exact g k (by omega)
  · exact g (k+1) (by omega)
 ·intro hv;obtain ⟨j,hj,rfl⟩:=List.mem_iff_getElem.1 hv;have g:∀ j (hj:j<P.length),P.getD j aB=P[j]:=fun j hj=>by rw [List.getD_eq_getElem?_getD,List.getElem?_eq_getElem hj];rfl
  by_cases e:j+1<P.length
  ·refine ⟨(P.getD j aB,P.getD (j+1) aB),?_,by show P[j]∈[P.getD j aB,P.getD (j+1) aB];rw [g j hj];exact List.mem_cons_self⟩;unfold fU;exact List.mem_map.2 ⟨j,List.mem_range.2 (by omega),rfl⟩
  ·refine ⟨(P.getD (j-1) aB,P.getD (j-1+1) aB),?_,?_⟩
   ·unfold fU;exact List.mem_map.2 ⟨j-1,List.mem_range.2 (by omega),rfl⟩
   ·have:j-1+1=j:=by omega
    show P[j]∈[P.getD (j-1) aB,P.getD (j-1+1) aB]
    rw [this,g j hj];exact List.mem_cons_of_mem _ List.mem_cons_self
theorem NP (p:Pl) (d:Int) (v:Pt):v∈aa8 p d↔v∈gK p d:=by
 unfold aa8;split
 · exact Iff.rfl
 · exact List.mem_reverse
section
variable {p:Pl} (h:Valid p)
include h
theorem Valid.Ru {X:List Int} (hX:∀ d∈X,d∈aQ p) (v:Pt):v∈kE (bP p X)↔v∈X.flatMap (aa8 p):=by
 have e:v∈kE (bP p X)↔∃ d∈X,v∈kE (fU (gK p d)):=by
  unfold kE bP;rw [List.flatMap_assoc,List.mem_flatMap]
 rw [e,List.mem_flatMap];refine exists_congr fun d=>and_congr_right fun hd=>?_;obtain ⟨a,ha,-,hp⟩:=h.AY (hX d hd);have hl:=fM p a;rw [ar2 (by rw [hp];omega),NP]
theorem Valid.WS {v:Pt} (nv:aU v=true) {a:Ar} (ha:a∈p.ah):kY p v a=true↔∃ k,k+1<(ak p a).length/\iT ((ak p a).getD k aB) ((ak p a).getD (k+1) aB) v:=by
 have g:∀ j (hj:j<(ak p a).length),(ak p a).getD j aB=(ak p a)[j]:=fun j hj=>by rw [List.getD_eq_getElem?_getD,List.getElem?_eq_getElem hj];rfl
 unfold kY uj;rw [List.any_eq_true];constructor
 ·rintro ⟨k,hk,e⟩;have hk:=List.mem_range.1 hk;have hk':k+1<(ak p a).length:=by omega
  rw [Wy hk'] at e;refine ⟨k,hk',?_⟩;rw [g k (by omega),g (k+1) hk'];exact (Et (h.Le ha (List.getElem_mem _)) (h.Le ha (List.getElem_mem _)) nv).1 e
 ·rintro ⟨k,hk,e⟩;refine ⟨k,List.mem_range.2 (by omega),?_⟩;rw [Wy hk];rw [g k (by omega),g (k+1) hk] at e;exact (Et (h.Le ha (List.getElem_mem _)) (h.Le ha (List.getElem_mem _)) nv).2 e
omit h in
theorem WT {v:Pt} {X:List Int} (e:dW p v=some X):X∈aI p:=(Dk _ _ e).1
omit h in
theorem NQ {f:Int} {X:List Int} (e:yC p f=some X):X∈aI p/\ku p (some X)=f:=⟨List.mem_of_find?_eq_some e,eq_of_beq (show (ku p (some X) == f)=true from List.find?_some (p:=fun X=>ku p (some X) == f) e)⟩
theorem Valid.WU (hf:uJ p) {f:Int}:f∈p.faces↔∃ X,yC p f=some X:=by
 have hsub:∀ y∈(aI p).map (fun X=>iw p (X.headD 0)),y∈p.faces:=fun y hy=>by
  obtain ⟨X,hX,rfl⟩:=List.mem_map.1 hy;rcases h.U3 (X.headD 0) with e | e
  · exact absurd e (hf.some X hX)
  · exact e
 constructor
 ·intro hm
  have:f∈(aI p).map (fun X=>iw p (X.headD 0)):=Classical.byContradiction fun c=>by
   have:=Lm (l:=f::(aI p).map (fun X=>iw p (X.headD 0))) (m:=p.faces) (List.nodup_cons.2 ⟨c,hf.differ⟩) (fun x hx=>by
    rcases List.mem_cons.1 hx with rfl | hx
    · exact hm
    · exact hsub x hx)
   rw [List.length_cons,List.length_map,hf.all] at this;omega
  obtain ⟨X,hX,e⟩:=List.mem_map.1 this
  cases c:yC p f with
  | some Y=>exact ⟨Y,rfl⟩
  | none=>exact absurd (beq_iff_eq.2 (show ku p (some X)=f from e)) (List.find?_eq_none.1 c X hX)
 ·rintro ⟨X,e⟩;obtain ⟨hX,rfl⟩:=NQ e;exact hsub _ (List.mem_map.2 ⟨X,hX,rfl⟩)
end
section
variable {p:Pl} (h:Valid p)
include h
end
set_option linter.unusedSectionVars false
section
variable (p:Pl)
theorem abZ (i:Int):findAr (dK p).ah i=(findAr p.ah i).map wU:=by
 unfold findAr dK;rw [List.find?_map];rfl
theorem ab1 (d:Int):gV (dK p) d=(gV p d).map wU:=by
 unfold gV;split
 · rfl
 · exact abZ p _
theorem ar4 (d:Int):lu (dK p) d=lu p d:=by
 unfold lu;rw [ab1]
 cases gV p d<;>rfl
theorem ar5 (d:Int):qI (dK p) d=qI p d:=by
 unfold qI;rw [ab1]
 cases gV p d<;>rfl
theorem ait (d:Int):dN (dK p) d=dN p d:=by
 unfold dN;rw [abZ]
 cases findAr p.ah (gJ d)<;>rfl
theorem aiu (d:Int):gK (dK p) d=gK p d:=by
 unfold gK;rw [abZ]
 cases findAr p.ah (gJ d)<;>rfl
theorem ar6 (n:Int):dO (dK p).ah n=dO p.ah n:=by
 unfold dO dK;rw [List.flatMap_map];rfl
theorem ab2:aQ (dK p)=aQ p:=by
 unfold aQ dK;simp only [List.map_map];rfl
theorem ar7 (n:Int):dJ (dK p) n=dJ p n:=by
 unfold dJ;rw [ar6];have e:∀ o,ltD (dK p) o=ltD p o:=fun o=>by funext d e;unfold ltD;rw [ait,ait]
 show (match mM p.nodes n with | none=>_ | some x=>_)=_
 cases mM p.nodes n with
 | none=>rfl
 | some x=>simp only [e]
theorem ar8:fO (dK p)=fO p:=by
 funext d
 unfold fO;rw [ab1,ar4,ar7,Option.isSome_map]
theorem WV:bF (dK p)=bF p:=by unfold bF;rw [ar8,ab2]
theorem Rw:dV (dK p)=dV p:=by
 funext X
 unfold dV;have e:qI (dK p)=qI p:=funext (ar5 p);rw [e]
theorem ar9:bP (dK p)=bP p:=by
 funext X
 unfold bP;have e:gK (dK p)=gK p:=funext (aiu p);rw [e]
theorem asa:encS (dK p)=encS p:=by funext X v;unfold encS;rw [ar9]
theorem ab3:aI (dK p)=aI p:=by unfold aI;rw [WV,Rw]
theorem ab4:iM (dK p)=iM p:=by unfold iM;rw [WV,Rw]
theorem WW:dW (dK p)=dW p:=by funext v;unfold dW;rw [ab3,Rw,asa]
theorem asb:lC (dK p)=lC p:=by funext c;unfold lC;rw [aiu]
theorem ab5:lS (dK p)=lS p:=by funext b;unfold lS;rw [ab4,WW,asb]
theorem ase (i:Int):kV (dK p).ah i=kV p.ah i:=by unfold kV dK;rw [List.map_map];rfl
theorem aiv:vC (dK p)=vC p:=by
 funext b
 unfold vC;rw [WW];simp only [ase];rfl
theorem aiw:gY (dK p)=gY p:=by funext b;unfold gY;rw [ab5]
theorem aix (a:Ar):Df (dK p) (wU a)↔Df p a:=Iff.rfl
end
def uo (p q:Pl):Prop:=dK p=dK q
theorem uo.nodes {p q:Pl} (h:uo p q):p.nodes=q.nodes:=by
 have e:dK p=dK q:=h;exact show (dK p).nodes=(dK q).nodes by rw [e]
theorem uo.ah {p q:Pl} (h:uo p q):p.ah.map wU=q.ah.map wU:=by
 have e:dK p=dK q:=h;exact show (dK p).ah=(dK q).ah by rw [e]
theorem uo.map {p q:Pl} (h:uo p q) {α:Type} (f:Ar->α) (hf:∀ a,f (wU a)=f a):p.ah.map f=q.ah.map f:=by
 have:=congrArg (List.map f) h.ah
 rw [List.map_map,List.map_map] at this;have e:f ∘ wU=f:=funext hf
 rwa [e] at this
section
variable {p q:Pl} (h:uo p q)
include h
theorem uo.aQ:aQ p=aQ q:=by rw [<- ab2 p,<- ab2 q,h]
theorem uo.bF:bF p=bF q:=by rw [<- WV p,<- WV q,h]
theorem uo.dV:dV p=dV q:=by rw [<- Rw p,<- Rw q,h]
theorem uo.aI:aI p=aI q:=by rw [<- ab3 p,<- ab3 q,h]
theorem uo.iM:iM p=iM q:=by rw [<- ab4 p,<- ab4 q,h]
theorem uo.dW:dW p=dW q:=by rw [<- WW p,<- WW q,h]
theorem uo.gY:gY p=gY q:=by rw [<- aiw p,<- aiw q,h]
theorem uo.lS:lS p=lS q:=by rw [<- ab5 p,<- ab5 q,h]
theorem uo.vC:vC p=vC q:=by rw [<- aiv p,<- aiv q,h]
theorem uo.valid (hv:Valid p) (h1:q.faces.length<=64) (h2:vU q.faces=true) (h3:∀ f∈q.faces,qW f=false) (h4:Au q=true):Valid q where
 lim:=by
  have hl:=hv.lim;unfold lY at hl ⊢;simp only [Bool.or_eq_false_iff,decide_eq_false_iff_not] at hl ⊢;obtain ⟨a1,⟨a2,a3⟩,-⟩:=hl;rw [<- h.nodes];have e1:q.ah.any (fun a=>decide (64<a.via.length))=p.ah.any (fun a=>decide (64<a.via.length)):=by
   rw [any_map' q.ah,any_map' p.ah,h.map (fun a=>decide (64<a.via.length)) (fun a=>rfl)]
  have e2:p.ah.length=q.ah.length:=by simpa using congrArg List.length h.ah
  rw [e1,<- e2];exact ⟨a1,⟨a2,a3⟩,by omega⟩
 ord:=by
  have ho:=hv.ord;unfold sF at ho ⊢;rw [Bool.and_eq_true,Bool.and_eq_true] at ho ⊢;rw [<- h.nodes,<- h.map (·.id) (fun a=>rfl)];exact ⟨ho.1,h2⟩
 rng:=by
  have hr:=hv.rng;unfold rY at hr ⊢;rw [Bool.and_eq_true] at hr ⊢;have ep:Ad q=Ad p:=by
   unfold Ad;rw [<- h.nodes,List.flatMap_def,List.flatMap_def,h.map (·.via) (fun a=>rfl)]
  rw [ep];refine ⟨?_,hr.2⟩;have h0:=hr.1;rw [Bool.not_eq_true',List.any_eq_false] at h0 ⊢;rw [<- h.nodes,<- h.map (·.id) (fun a=>rfl)];intro x hx;rcases List.mem_append.1 hx with hx | hx
  · exact h0 x (List.mem_append_left _ hx)
  · rw [h3 x hx];simp
 dup:=by have:=hv.dup;rwa [h.nodes] at this
 ends:=by
  have:=hv.ends
  rw [all_map'] at this ⊢;rw [<- this];congr 1;have e:mP q=mP p:=by funext a;unfold mP;rw [h.nodes]
  rw [e];exact (h.map (mP p) (fun a=>rfl)).symm
 sides:=h4
 Zb:=by
  have hs:(p.ah.map (·.id)).Pairwise (· < ·):=hv.sound.ah;have hs':(q.ah.map (·.id)).Pairwise (· < ·):=by rw [<- h.map (·.id) (fun a=>rfl)];exact hs
  have hb:(dK p).ah.map (·.id)=p.ah.map (·.id):=by unfold dK;simp only [List.map_map];rfl
  have hb':(dK q).ah.map (·.id)=q.ah.map (·.id):=by unfold dK;simp only [List.map_map];rfl
  have key:∀ r:Pl,(r.ah.map (·.id)).Pairwise (· < ·)->(qC (dK r)=true↔qC r=true):=fun r hr=>by
   have hbr:(dK r).ah.map (·.id)=r.ah.map (·.id):=by unfold dK;simp only [List.map_map];rfl
   rw [Ui r hr,Ui (dK r) (by rw [hbr];exact hr)];refine and_congr ?_ ?_
   ·show (∀ a∈r.ah.map wU,Df (dK r) a)↔_
    constructor
    · exact fun g a ha=>(aix r a).1 (g _ (List.mem_map_of_mem ha))
    ·rintro g a ha;obtain ⟨b,hb,rfl⟩:=List.mem_map.1 ha;exact (aix r b).2 (g b hb)
   ·show List.Pairwise (x9 (dK r)) (r.ah.map wU)↔_
    rw [List.pairwise_map];exact Iff.rfl
  have h5:=(key p hs).2 hv.Zb;have h6:dK p=dK q:=h;rw [h6] at h5;exact (key q hs').1 h5
end
set_option linter.unusedSectionVars false
theorem aiy {α β:Type} [DecidableEq β] (g:α->β) (O:List α):∀ {fs:List β},fs.Nodup->(fs.flatMap fun f=>O.filter (fun X=>decide (g X=f))).Perm (O.filter (fun X=>decide (g X∈fs)))
 | [],_=>by simp
 | f::fs,h=>by
  obtain ⟨hf,hn⟩:=List.nodup_cons.1 h;rw [List.flatMap_cons];refine ((aiy g O hn).append_left _).trans ?_;have e1:O.filter (fun X=>decide (g X=f))=(O.filter (fun X=>decide (g X∈f::fs))).filter (fun X=>decide (g X=f)):=by
   rw [List.filter_filter];congr 1
   funext X
   by_cases e:g X=f<;>simp [e]
  have e2:O.filter (fun X=>decide (g X∈fs))=(O.filter (fun X=>decide (g X∈f::fs))).filter (fun X=>!decide (g X=f)):=by
   rw [List.filter_filter];congr 1
   funext X
   by_cases e:g X=f
   · simp [e,hf]
   · simp [e]
  rw [e1,e2];exact List.filter_append_perm _ _
theorem asf {α β:Type} [DecidableEq β] (g:α->β) (O:List α) {fs:List β} (hn:fs.Nodup) (ha:∀ x∈O,g x∈fs):(fs.flatMap fun f=>O.filter (fun X=>decide (g X=f))).Perm O:=by
 refine (aiy g O hn).trans ?_
 have:O.filter (fun X=>decide (g X∈fs))=O:=by
  rw [List.filter_eq_self];intro x hx;rw [decide_eq_true_eq];exact ha x hx
 rw [this]
theorem aiz {α β:Type} (f g:α->List β):∀ l:List α,(l.flatMap fun a=>f a++g a).Perm (l.flatMap f++l.flatMap g)
 | []=>by simp
 | a::l=>by
  simp only [List.flatMap_cons];refine ((aiz f g l).append_left _).trans ?_;rw [List.append_assoc,List.append_assoc];refine List.Perm.append_left _ ?_;rw [<- List.append_assoc,<- List.append_assoc];exact List.Perm.append_right _ List.perm_append_comm
def Rx (r:Rg):List Int:=r.out++r.inn.flatten
section
variable {p:Pl} (h:Valid p)
include h
theorem Valid.asg:(lD p).Nodup:=by
 unfold lD;refine List.nodup_cons.2 ⟨fun hm=>?_,?_⟩
 ·obtain ⟨X,-,e⟩:=List.mem_map.1 hm
  cases e
 ·have hn:=h.U4;unfold List.Nodup at hn ⊢;rw [List.pairwise_map];exact hn.imp (fun hne e=>hne (by injection e))
omit h in
theorem ash (v:Pt):dW p v∈lD p:=by
 unfold lD
 cases e:dW p v with
 | none=>exact List.mem_cons_self
 | some X=>exact List.mem_cons_of_mem _ (List.mem_map_of_mem (WT e))
theorem Valid.asi:(((lD p).map (xA p)).flatMap Rx).Perm (aQ p):=by
 rw [List.flatMap_map];have e1:((lD p).flatMap fun b=>Rx (xA p b)).Perm ((lD p).flatMap (fun b=>b.getD [])++(lD p).flatMap fun b=>(lS p b).flatten):=aiz _ _ _;refine e1.trans ?_;have e2:(lD p).flatMap (fun b=>b.getD [])=(aI p).flatten:=by
  unfold lD;rw [List.flatMap_cons,List.flatMap_map,List.flatten_eq_flatMap];rfl
 have e3:((lD p).flatMap fun b=>(lS p b).flatten).Perm (iM p).flatten:=by
  have g:=asf (fun c=>dW p (lC p c)) (iM p) h.asg (fun c _=>ash _);have e4:((lD p).flatMap fun b=>(lS p b).flatten)=((lD p).flatMap fun f=>(iM p).filter (fun X=>decide (dW p (lC p X)=f))).flatten:=by
   rw [List.flatten_eq_flatMap (L:=(lD p).flatMap _),List.flatMap_assoc];congr 1
   funext b
   rw [List.flatten_eq_flatMap];rfl
  rw [e4];exact g.flatten
 rw [e2];refine (e3.append_left _).trans ?_;rw [<- List.flatten_append];refine List.Perm.trans ?_ h.Zu;refine List.Perm.flatten ?_;unfold aI iM;exact List.filter_append_perm _ _
end
set_option linter.unusedSectionVars false
theorem aiA {α β:Type} (f:α->List β) {l:List α} {a:α} (h:a∈l):(f a).length<=(l.flatMap f).length:=by
 obtain ⟨s,t,rfl⟩:=List.append_of_mem h;simp only [List.flatMap_append,List.flatMap_cons,List.length_append];omega
theorem Ko {α β:Type} (f:α->List β) (h:∀ a,(f a).length<=1) (l:List α):(l.flatMap f).length<=l.length:=by
 have:=Tj l f 1 (fun a _=>h a)
 omega
theorem ab6 (y:Int) (q:Pt×Pt):(oP y q).length<=1:=by
 unfold oP
 repeat' split
 all_goals simp
theorem aiB (y:Int) (q:Pt×Pt):(jl y q).length<=1:=by
 unfold jl;split<;>simp
theorem aiC (ns:List Nd) (y:Int) (i:Int):(qP ns y i).length<=1:=by
 unfold qP;split
 · split<;>simp
 · simp
section
variable {p:Pl} (h:Valid p)
include h
theorem Valid.asj {b:Option (List Int)} (hb:b∈lD p):(gY p b).flatten.length<=512:=by
 have hp:=h.asi.length_eq;have h1:=aiA Rx (List.mem_map_of_mem (f:=xA p) hb);have h2:Rx (xA p b)=(gY p b).flatten:=by
  unfold Rx gY;rw [List.flatten_cons];rfl
 rw [h2] at h1;have h3:(aQ p).length=2*p.ah.length:=by unfold aQ;simp;omega
 have h4:=(Tm h.lim).2.2.1;omega
theorem Valid.asl {X:List Int} (hX:∀ d∈X,d∈aQ p):(bP p X).length<=X.length*65:=by
 unfold bP;refine Tj X _ 65 fun d hd=>?_;obtain ⟨a,ha,-,e⟩:=h.AY (hX d hd);have h1:=fM p a;have h2:=h.y9 ha;rw [e];unfold fU;rw [List.length_map,List.length_range];omega
omit h in
theorem asn (b:Option (List Int)):iD p b=bP p (gY p b).flatten:=by
 unfold iD bP;rw [List.flatten_eq_flatMap,List.flatMap_assoc];rfl
theorem Valid.aiD {b:Option (List Int)} (hb:b∈lD p) {c:List Int} (hc:c∈gY p b):∀ d∈c,d∈aQ p:=fun d hd=>by
 unfold gY at hc;rcases List.mem_cons.1 hc with e | hc
 ·unfold lD at hb;rcases List.mem_cons.1 hb with rfl | hb
  · rw [e] at hd;cases hd
  ·obtain ⟨X,hX,rfl⟩:=List.mem_map.1 hb;have e':c=X:=e;subst e';exact (h.iE (fF.1 hX).1).2 d hd
 · exact (h.iE (tH.1 (List.mem_filter.1 hc).1).1).2 d hd
theorem Valid.aiE {b:Option (List Int)} (hb:b∈lD p):(iD p b).length<=33280:=by
 rw [asn];have h1:=h.asj hb;have h2:=h.asl (X:=(gY p b).flatten) (fun d hd=>by
  obtain ⟨c,hc,hd⟩:=List.mem_flatten.1 hd;exact h.aiD hb hc d hd)
 omega
theorem Valid.aso (b:Option (List Int)):(vC p b).length<=256:=by
 unfold vC;rw [List.length_map];have:=List.length_filter_le (fun n=>decide (kV p.ah n.id=0/\dW p n.pt=b)) p.nodes
 have:=h.Qk
 omega
end
def BL (p:Pl) (C:List (List Int)) (k:Nat):List (Pt×Pt):=(C.take k).flatMap (bP p)
theorem asq (p:Pl) {C:List (List Int)} {k:Nat} (hk:k<C.length):BL p C (k+1)=BL p C k++bP p C[k]:=by
 unfold BL;rw [List.take_succ_eq_append_getElem hk,List.flatMap_append];simp
theorem asr (p:Pl) (C:List (List Int)) (k:Nat):(BL p C k).length<=(C.flatMap (bP p)).length:=by
 have e:C.flatMap (bP p)=BL p C k++(C.drop k).flatMap (bP p):=by
  unfold BL;rw [<- List.flatMap_append,List.take_append_drop]
 rw [e,List.length_append];omega
theorem foldl_snoc {α:Type}:∀ (l s:List α),l.foldl (fun s q=>s++[q]) s=s++l
 | [],s=>(List.append_nil s).symm
 | q::l,s=>by rw [List.foldl_cons,foldl_snoc l];simp
theorem aiF:∀ (m:Nat) (l:List Int) (h:2*m+1<l.length),kT (l.take (2*(m+1)))=kT (l.take (2*m))++kP (l[2*m]'(by omega)) l[2*m+1]
 | 0,a::b::l,_=>by
  show kT [a,b]=kT []++kP a b
  unfold kT kT;simp
 | m+1,a::b::l,h=>by
  simp only [List.length_cons] at h;have ih:=aiF m l (by omega);have e1:(a::b::l).take (2*(m+1+1))=a::b::l.take (2*(m+1)):=by rw [show 2*(m+1+1)=2*(m+1)+1+1 by omega];rfl
  have e2:(a::b::l).take (2*(m+1))=a::b::l.take (2*m):=by rw [show 2*(m+1)=2*m+1+1 by omega];rfl
  rw [e1,e2,kT,kT,ih,List.append_assoc];rfl
theorem aiG:∀ (m:Nat) (l:List Int),2*m<=l.length->l.length<=2*m+1->kT (l.take (2*m))=kT l
 | 0,l,_,h=>by
  match l,h with
  | [],_=>rfl
  | [a],_=>rfl
 | m+1,[],h,_=>by simp at h
 | m+1,[a],h,_=>by simp at h;omega
 | m+1,a::b::l,h1,h2=>by
  simp only [List.length_cons] at h1 h2;have e2:(a::b::l).take (2*(m+1))=a::b::l.take (2*m):=by rw [show 2*(m+1)=2*m+1+1 by omega];rfl
  rw [e2,kT,kT,aiG m l (by omega) (by omega)]
theorem aiH:∀ (n:Nat) (l:List Int),l.length<=n->(kT l).length<=l.length
 | _,[],_=>by unfold kT;simp
 | _,[a],_=>by unfold kT;simp
 | n+1,a::b::l,h=>by
  simp only [List.length_cons] at h;have ih:=aiH n l (by omega);rw [kT,List.length_append];have:(kP a b).length<=1:=by unfold kP;split<;>simp
  simp only [List.length_cons];omega
 | 0,a::b::l,h=>by simp at h
theorem asu (bs:List Rn):pY (sO []) bs=[]:=rfl
theorem asv {l:List Rn} {k:Nat} (hk:k<l.length):GX (l.take (k+1))=aaU (GX (l.take k)) l[k]:=by
 unfold GX;rw [List.take_succ_eq_append_getElem hk,List.foldl_append];rfl
theorem asw {α:Type} {g:Nat->Option α} {N D:Nat} {v:α} (h:∀ i,i<D->g i=none) (hv:g D=some v) (hD:D<N):(List.range N).findSome? g=some v:=by
 have e:List.range N=List.range D++D::(List.range N).drop (D+1):=by
  have h1:D<(List.range N).length:=by rw [List.length_range];exact hD
  have h2:(List.range N).take D=List.range D:=by rw [List.take_range];congr 1;omega
  have h3:(List.range N)[D]=D:=List.getElem_range _;have:=(List.take_append_drop D (List.range N)).symm
  rw [List.drop_eq_getElem_cons h1,h2,h3] at this;exact this
 rw [e,List.findSome?_append,List.findSome?_cons,hv];have:(List.range D).findSome? g=none:=List.findSome?_eq_none_iff.2 fun i hi=>h i (List.mem_range.1 hi)
 rw [this];rfl
theorem asx {α:Type} {g:Nat->Option α} {N:Nat} (h:∀ i,i<N->g i=none):(List.range N).findSome? g=none:=List.findSome?_eq_none_iff.2 fun i hi=>h i (List.mem_range.1 hi)
theorem Ry (p:Pl) (b:Option (List Int)) {y0 y1 y:Int} (h:y<y0\/y1<y):midRow p b y0 y1 y=none:=by unfold midRow;rw [if_pos h]
theorem asy (p:Pl) (b:Option (List Int)) {y0 y1 y:Int} (h:¬ (y<y0\/y1<y)):midRow p b y0 y1 y=((GX (tY p b y)).2).map fun x=>⟨x,y⟩:=by unfold midRow;rw [if_neg h]
theorem asz (p:Pl) (b:Option (List Int)) {y0 y1:Int} {D:Nat} (h:∀ i,i<D->midD p b y0 y1 ((y0+y1) / 2) i=none) (h1:y1<(y0+y1) / 2+D) (h2:(y0+y1) / 2-D<y0):Qn p b y0 y1=none:=by
 refine asx fun i hi=>?_;by_cases c:i<D
 · exact h i c
 ·unfold midD;rw [Ry p b (.inr (by omega)),Ry p b (.inl (by omega))];rfl
theorem asA (p:Pl) (b:Option (List Int)) {y0 y1:Int} {D:Nat} {v:Pt} (h:∀ i,i<D->midD p b y0 y1 ((y0+y1) / 2) i=none) (hv:midD p b y0 y1 ((y0+y1) / 2) D=some v):Qn p b y0 y1=some v:=by
 refine asw h hv ?_;have:¬ (y1<(y0+y1) / 2+D/\(y0+y1) / 2-D<y0):=fun c=>by
  unfold midD at hv;rw [Ry p b (.inr c.1),Ry p b (.inl c.2)] at hv
  cases hv
 omega
end Go.Proofs.YtialfdomhoojiaaGreat
