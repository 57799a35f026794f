import Derived.Test.YtialfdomhoojiaaGreatJ15
set_option linter.unusedSimpArgs false
set_option linter.unusedVariables false
namespace Go.Proofs.YtialfdomhoojiaaGreat
open Go.RowKit
def J9 (lo hi:Int):List Rn:=if lo<hi then [⟨lo,hi⟩] else []
theorem aBD {lo hi n:Int}:Fz (J9 lo hi) n↔lo<=n/\n<hi:=by
 unfold J9;split
 · rw [MO];exact ⟨fun g=>g.resolve_right (Xm n),.inl⟩
 · exact ⟨fun g=>absurd g (Xm n),fun g=>by omega⟩
def Ot (hi:Int):Int->List Rn->List Rn
 | lo,[]=>J9 lo hi
 | lo,b::bs=>if b.lo<hi then J9 lo b.lo++Ot hi b.hi bs else J9 lo hi
def NJ (lo:Int) (bs:List Rn):List Rn:=bs.dropWhile (fun b=>decide (b.hi<=lo))
def OO:List Rn->List Rn->List Rn
 | [],_=>[]
 | r::xs,bs=>Ot r.hi r.lo (NJ r.lo bs)++OO xs (NJ r.lo bs)
theorem MN.drop {l:List Rn} (h:MN l) (lo:Int):MN (NJ lo l):=by
 have hs:=List.dropWhile_sublist (fun b:Rn=>decide (b.hi<=lo)) (l:=l);exact ⟨fun x hx=>h.1 x (hs.subset hx),h.2.sublist hs⟩
theorem yL (lo:Int):∀ {l:List Rn},MN l->∀ {n:Int},lo<=n->(Fz (NJ lo l) n↔Fz l n)
 | [],_,_,_=>Iff.rfl
 | b::l,h,n,hn=>by
  unfold NJ;rw [fU];by_cases e:b.hi<=lo
  ·rw [AZ (by simpa using e),MO];have:=yL lo h.tail hn
   unfold NJ at this;rw [this];exact ⟨.inr,fun g=>g.resolve_left AB⟩
  · rw [AX (by simpa using e)]
theorem aik (hi:Int):∀ (bs:List Rn) (lo:Int),MN bs->(∀ x∈bs,lo<x.hi) ->
  MN (Ot hi lo bs)/\(∀ r∈Ot hi lo bs,lo<=r.lo/\r.hi<=hi)/\∀ n,Fz (Ot hi lo bs) n↔(lo<=n/\n<hi)/\¬ (Fz bs n)
 | [],lo,_,_=>by
  unfold Ot;refine ⟨?_,fun r hr=>?_,fun n=>?_⟩
  ·unfold J9;split
   · exact ⟨fun x hx=>by rw [ED] at hx;subst hx;assumption,Aw⟩
   · exact ⟨fun x hx=>(by cases hx),List.Pairwise.nil⟩
  ·unfold J9 at hr;split at hr
   · rw [ED] at hr;subst hr;exact ⟨L8 _,L8 _⟩
   · cases hr
  ·rw [aBD];exact ⟨fun g=>⟨g,Xm n⟩,fun g=>g.1⟩
 | b::bs,lo,h,hlo=>by
  have hb:=h.1 b Ea;have hl:=hlo b Ea;obtain ⟨h1,h2,h3⟩:=aik hi bs b.hi h.tail (fun x hx=>by
   have:=(JC.1 h.2).1 x hx
   have:=h.1 x (Gn _ hx)
   omega)
  have hA:∀ l m,∀ r∈J9 l m,r=⟨l,m⟩/\l<m:=fun l m r hr=>by
   unfold J9 at hr;split at hr
   · rw [ED] at hr;exact ⟨hr,KP⟩
   · cases hr
  have hP:∀ l m,(J9 l m).Pairwise (fun a b=>a.hi<b.lo):=fun l m=>by unfold J9;split<;>simp
  unfold Ot;by_cases e:b.lo<hi
  ·rw [AZ e];refine ⟨⟨fun r hr=>?_,?_⟩,fun r hr=>?_,fun n=>?_⟩
   ·rcases FZ.1 hr with hr | hr
    · obtain ⟨rfl,g⟩:=hA _ _ r hr;exact g
    · exact h1.1 r hr
   ·rw [Ql];refine ⟨hP _ _,h1.2,fun x hx y hy=>?_⟩;obtain ⟨rfl,g⟩:=hA _ _ x hx;have:=(h2 y hy).1
    show b.lo<y.lo
    omega
   ·rcases FZ.1 hr with hr | hr
    ·obtain ⟨rfl,g⟩:=hA _ _ r hr;exact ⟨L8 _,by show b.lo<=hi;omega⟩
    ·have:=h2 r hr
     exact ⟨AB,this.2⟩
   ·rw [Um,aBD,h3,MO];have ht:Fz bs n->b.hi<n:=fun g=>h.Xn g;constructor
    ·rintro (g | ⟨g,g2⟩)
     · exact ⟨AB,fun g2=>by
       rcases g2 with g2 | g2
       · omega
       · have:=ht g2;omega⟩
     · exact ⟨AB,fun g3=>by
       rcases g3 with g3 | g3
       · omega
       · exact g2 g3⟩
    ·rintro ⟨g,g2⟩;by_cases g4:n<b.lo
     · exact .inl ⟨g.1,g4⟩
     ·refine .inr ⟨⟨?_,g.2⟩,fun g3=>g2 (.inr g3)⟩;have:¬ (b.lo<=n/\n<b.hi):=fun g3=>g2 (.inl g3)
      omega
  ·rw [AX e];refine ⟨⟨fun r hr=>?_,hP _ _⟩,fun r hr=>?_,fun n=>?_⟩
   · obtain ⟨rfl,g⟩:=hA _ _ r hr;exact g
   · obtain ⟨rfl,g⟩:=hA _ _ r hr;exact ⟨L8 _,L8 _⟩
   ·rw [aBD,MO];have ht:Fz bs n->b.hi<n:=fun g=>h.Xn g;refine ⟨fun g=>⟨g,fun g2=>?_⟩,fun g=>g.1⟩;rcases g2 with g2 | g2
    · omega
    · have:=ht g2;omega
theorem ail (lo:Int):∀ {l:List Rn},MN l->∀ x∈NJ lo l,lo<x.hi
 | [],_,x,hx=>by cases hx
 | b::l,h,x,hx=>by
  unfold NJ at hx;rw [fU] at hx;by_cases e:b.hi<=lo
  ·rw [AZ (by simpa using e)] at hx;exact ail lo h.tail x hx
  ·rw [AX (by simpa using e)] at hx;rcases EJ.1 hx with rfl | hx
   · omega
   ·have h1:=(JC.1 h.2).1 x hx;have h2:=h.1 x (Gn _ hx);omega
theorem aeQ:∀ (xs bs:List Rn),MN xs->MN bs ->
  MN (OO xs bs)/\(∀ r∈OO xs bs,∃ a∈xs,a.lo<=r.lo)/\∀ n,Fz (OO xs bs) n↔Fz xs n/\¬ Fz bs n
 | [],bs,_,_=>⟨⟨fun x hx=>(by cases hx),List.Pairwise.nil⟩,fun x hx=>(by cases hx),fun n=>⟨fun g=>absurd g (Xm n),fun g=>absurd g.1 (Xm n)⟩⟩
 | r::xs,bs,ha,hb=>by
  obtain ⟨c1,c2,c3⟩:=aik r.hi (NJ r.lo bs) r.lo (hb.drop r.lo) (ail r.lo hb);obtain ⟨m1,m2,m3⟩:=aeQ xs (NJ r.lo bs) ha.tail (hb.drop r.lo);unfold OO;refine ⟨⟨fun x hx=>?_,?_⟩,fun x hx=>?_,fun n=>?_⟩
  ·rcases FZ.1 hx with hx | hx
   · exact c1.1 x hx
   · exact m1.1 x hx
  ·rw [Ql];refine ⟨c1.2,m1.2,fun x hx y hy=>?_⟩;obtain ⟨a,ha',hl⟩:=m2 y hy;have:=(JC.1 ha.2).1 a ha'
   have:=(c2 x hx).2
   omega
  ·rcases FZ.1 hx with hx | hx
   · exact ⟨r,Ea,(c2 x hx).1⟩
   ·obtain ⟨a,ha',hl⟩:=m2 x hx;exact ⟨a,Gn _ ha',hl⟩
  ·rw [Um,c3,m3,MO];constructor
   ·rintro (⟨g,g2⟩ | ⟨g,g2⟩)
    · exact ⟨.inl g,fun g3=>g2 ((yL r.lo hb g.1).2 g3)⟩
    ·have:=ha.Xn g
     have:=ha.1 r Ea
     exact ⟨.inr g,fun g3=>g2 ((yL r.lo hb AB).2 g3)⟩
   ·rintro ⟨g | g,g2⟩
    · exact .inl ⟨g,fun g3=>g2 ((yL r.lo hb g.1).1 g3)⟩
    ·have:=ha.Xn g
     have:=ha.1 r Ea
     exact .inr ⟨g,fun g3=>g2 ((yL r.lo hb AB).1 g3)⟩
def OQ (x:Bx) (v:Pt):Bx:=⟨min x.x0 v.x,min x.y0 v.y,max x.x1 v.x,max x.y1 v.y⟩
def Ou (l:List Pt):Bx:=match l with
 | []=>⟨0,0,-1,-1⟩
 | v::_=>l.foldl OQ ⟨v.x,v.y,v.x,v.y⟩
def SH (a b:Int):Int:=-((-a) / b)
theorem yM {r H t:Int} (hH:0<H):SH r H<=t↔r<=t*H:=by
 unfold SH;have h1:-((-r) / H)<=t↔-t<=(-r) / H:=by omega
 rw [h1,Int.le_ediv_iff_mul_le hH,OZ];omega
theorem asO {x y:Int} (hy:0<y):SH x y=if x.tmod y≠0/\¬ x.tmod y<0 then x.tdiv y+1 else x.tdiv y:=by
 have e:=Int.mul_tdiv_add_tmod x y;have h1:=Int.tmod_lt_of_pos x hy;have h2:-y<x.tmod y:=by
  have:=Int.tmod_lt_of_pos (-x) hy
  rw [Int.neg_tmod] at this;omega
 generalize x.tdiv y=q at *;generalize x.tmod y=r at *;have key:∀ k,x<=k*y->¬ x<=(k-1)*y->SH x y=k:=fun k g1 g2=>by
  have:=(yM hy).2 g1
  have:¬ SH x y<=k-1:=fun g=>g2 ((yM hy).1 g)
  omega
 rw [KL] at e;split
 ·refine key _ ?_ ?_
  · rw [ab3];omega
  · rw [show q+1-1=q by omega];omega
 ·refine key _ ?_ ?_
  · omega
  · rw [Int.sub_mul];omega
