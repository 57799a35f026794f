import Derived.Test.YtnhdmghgjngcaaaGreatJ16
import Derived.Test.YtnhdmghgjngcaaaGreatJ22
import Derived.Test.YtnhdmghgjngcaaaGreatSortB
import Derived.Test.YtnhdmghgjngcaaaGreatJ29
import Derived.Test.YtnhdmghgjngcaaaGreatGB
import Derived.Test.YtnhdmghgjngcaaaGreatJ14
import Derived.Test.YtnhdmghgjngcaaaGreatJ08
import Derived.Test.YtnhdmghgjngcaaaGreatJ34
import Derived.Test.YtnhdmghgjngcaaaGreatJ25
import Derived.Test.YtnhdmghgjngcaaaGreatJ13
import Derived.Test.YtnhdmghgjngcaaaGreatJ26
import Derived.Test.YtnhdmghgjngcaaaGreatJ04
import Derived.Test.YtnhdmghgjngcaaaGreatJ17
import Derived.Test.YtnhdmghgjngcaaaGreatJ01
import Derived.Test.YtnhdmghgjngcaaaGreatJ27
import Derived.Test.YtnhdmghgjngcaaaGreatJ09
import Derived.Test.YtnhdmghgjngcaaaGreatJ33
set_option linter.unusedSimpArgs false
set_option linter.unusedVariables false
namespace Go.Proofs.YtnhdmghgjngcaaaGreat
open Go.RowKit
set_option linter.unusedSectionVars false

section
variable (p:Pl)
end
def SameG (p q:Pl):Prop:=bareP p=bareP q
section
variable {p q:Pl} (h:SameG p q)
include h
end
end Go.Proofs.YtnhdmghgjngcaaaGreat
namespace Go.Proofs.YtnhdmghgjngcaaaGreat
open Go.RowKit
set_option linter.unusedSectionVars false

def revG (e:Int) (a:Ar):Ar:=if a.id=e then revA a else a
structure Twin (p q:Pl) (e:Int):Prop where
 vp:Valid p
 vq:Valid q
 nodes:p.nodes=q.nodes
 arcs:q.arcs=p.arcs.map (revG e)
 faces:p.faces=q.faces
 pos:1≤e
section
variable {p q:Pl} {e:Int} (h:Twin p q e)
include h
end
section
variable {p q:Pl} {e:Int} (h:Twin p q e)
include h
end
end Go.Proofs.YtnhdmghgjngcaaaGreat
namespace Go.Proofs.YtnhdmghgjngcaaaGreat
open Go.RowKit

def mvPt (by_:Pt) (t:Bool) (q:Pt):Pt:=if t then ⟨-q.y+by_.x,q.x+by_.y⟩ else ⟨q.x+by_.x,q.y+by_.y⟩
def mvNd (by_:Pt) (t:Bool) (n:Nd):Nd:=⟨n.id,mvPt by_ t n.pt⟩
def mvAr (by_:Pt) (t:Bool) (a:Ar):Ar:=⟨a.id,a.fr,a.dst,a.via.map (mvPt by_ t),a.left,a.right⟩
def mvPl (by_:Pt) (t:Bool) (p:Pl):Pl:=⟨p.nodes.map (mvNd by_ t),p.arcs.map (mvAr by_ t),p.faces⟩

section
variable (d:Pt) (t:Bool)
end
end Go.Proofs.YtnhdmghgjngcaaaGreat
namespace Go.Proofs.YtnhdmghgjngcaaaGreat
open Go.RowKit
set_option linter.unusedSectionVars false

section
variable {p:Pl} (h:Valid p)
include h
end

def q3 (o a:Pt):Bool:=decide (0≤a.x-o.x) && decide (a.y-o.y<0)
theorem sorted_cut {lt:Int→Int→Bool} {Q:Int→Bool}:∀ {l:List Int},l.Pairwise (fun a b=>lt b a=false)→(∀ a∈l,∀ b∈l,lt b a=false→Q a=true→Q b=true)→l=l.filter (fun x=>!Q x)++l.filter Q
 | [],_,_=>rfl
 | a::l,hs,hq=>by
  obtain ⟨h1,h2⟩:=List.pairwise_cons.1 hs
  have ih:=sorted_cut h2 (fun x hx y hy=>hq x (List.mem_cons_of_mem _ hx) y (List.mem_cons_of_mem _ hy))
  cases hQ:Q a
  ·
   simp only [List.filter_cons,hQ,Bool.not_false,if_true,Bool.false_eq_true,if_false,List.cons_append]
   rw [← ih]
  ·
   have hall:∀ x∈l,Q x=true:=fun x hx=>hq a List.mem_cons_self x (List.mem_cons_of_mem _ hx) (h1 x hx) hQ
   have e1:l.filter Q=l:=List.filter_eq_self.2 hall
   have e2:l.filter (fun x=>!Q x)=[]:=List.filter_eq_nil_iff.2 fun x hx=>by rw [hall x hx];simp
   simp only [List.filter_cons,hQ,Bool.not_true,Bool.false_eq_true,if_false,if_true]
   rw [e1,e2,List.nil_append]
theorem rot_arith (x y i:Nat) (hi':i<x+y):((i+y) % (x+y)+(x+y)-1) % (x+y)=((i+(x+y)-1) % (x+y)+y) % (x+y):=by
 have m1:∀ t,t<x+y→(t+y) % (x+y)=if t<x then t+y else t-x:=fun t ht=>by
  split
  · exact Nat.mod_eq_of_lt (by omega)
  ·
   have:t+y=(t-x)+(x+y):=by omega
   rw [this,Nat.add_mod_right,Nat.mod_eq_of_lt (by omega)]
 have m2:∀ t,t<x+y→(t+(x+y)-1) % (x+y)=if t=0 then x+y-1 else t-1:=fun t ht=>by
  split
  · rename_i h0;subst h0;rw [Nat.mod_eq_of_lt (by omega)];omega
  ·
   have:t+(x+y)-1=(t-1)+(x+y):=by omega
   rw [this,Nat.add_mod_right,Nat.mod_eq_of_lt (by omega)]
 rw [m1 i hi',m2 i hi']
 by_cases h0:i=0
 ·
  subst h0
  rw [if_pos rfl]
  by_cases hx:0<x
  ·
   rw [if_pos hx,m2 _ (by omega),m1 _ (by omega)]
   by_cases hy:y=0
   · subst hy;rw [if_pos (by omega),if_pos (by omega)];omega
   · rw [if_neg (by omega),if_neg (by omega)];omega
  ·
   rw [if_neg hx,m2 _ (by omega),m1 _ (by omega)]
   rw [if_pos (by omega),if_neg (by omega)];omega
 ·
  rw [if_neg h0,m1 (i-1) (by omega)]
  by_cases c:i<x
  · rw [if_pos c,if_pos (by omega),m2 _ (by omega),if_neg (by omega)];omega
  ·
   rw [if_neg c,m2 _ (by omega)]
   by_cases c2:i=x
   · rw [if_pos (by omega),if_pos (by omega)];omega
   · rw [if_neg (by omega),if_neg (by omega)];omega
theorem prec_rot {A B:List Int} (hn:(A++B).Nodup) {d:Int} (hd:d∈A++B):precD (B++A) d=precD (A++B) d:=by
 have hn2:(B++A).Nodup:=(List.perm_append_comm).nodup_iff.1 hn
 obtain ⟨i,hi,rfl⟩:=List.mem_iff_getElem.1 hd
 rw [precD_at hn hi]
 have hlen:(A++B).length=A.length+B.length:=List.length_append
 have hlen2:(B++A).length=A.length+B.length:=by rw [List.length_append];omega
 have key:∀ i (hi:i<(A++B).length),∃ j,∃ hj:j<(B++A).length,(B++A)[j]=(A++B)[i]∧j=(i+B.length) % (A.length+B.length):=fun i hi=>by
  have hi':i<A.length+B.length:=by rw [← hlen];exact hi
  by_cases c:i<A.length
  ·
   refine ⟨i+B.length,by rw [hlen2];omega,?_,?_⟩
   ·
    rw [List.getElem_append_right (by omega),List.getElem_append_left c]
    congr 1;omega
   · rw [Nat.mod_eq_of_lt (by omega)]
  ·
   refine ⟨i-A.length,by rw [hlen2];omega,?_,?_⟩
   · rw [List.getElem_append_left (by omega),List.getElem_append_right (by omega)]
   ·
    have:i+B.length=(i-A.length)+(A.length+B.length):=by omega
    rw [this,Nat.add_mod_right,Nat.mod_eq_of_lt (by omega)]
 obtain ⟨j,hj,e1,e2⟩:=key i hi
 rw [← e1,precD_at hn2 hj]
 have hpos:0<A.length+B.length:=by omega
 obtain ⟨k,hk,e3,e4⟩:=key ((i+(A++B).length-1) % (A++B).length) (Nat.mod_lt _ (by omega))
 rw [← e3]
 congr 1
 rw [e2,e4,hlen,hlen2]
 exact rot_arith _ _ _ (by rw [← hlen];exact hi)
section
variable {p:Pl} (h:Valid p)
include h
end
end Go.Proofs.YtnhdmghgjngcaaaGreat
namespace Go.Proofs.YtnhdmghgjngcaaaGreat
open Go.RowKit
set_option linter.unusedSectionVars false

theorem mul_sgn2 (x y:Int):(0<x∧0<y∧0<x*y)∨(0<x∧y<0∧x*y<0)∨(x<0∧0<y∧x*y<0)∨(x<0∧y<0∧0<x*y)∨(x=0∧x*y=0)∨(y=0∧x*y=0):=by
 rcases Int.lt_trichotomy x 0 with a | a | a
 ·
  rcases Int.lt_trichotomy y 0 with b | b | b
  · exact .inr (.inr (.inr (.inl ⟨a,b,Int.mul_pos_of_neg_of_neg a b⟩)))
  · exact .inr (.inr (.inr (.inr (.inr ⟨b,by rw [b,Int.mul_zero]⟩))))
  · exact .inr (.inr (.inl ⟨a,b,Int.mul_neg_of_neg_of_pos a b⟩))
 · exact .inr (.inr (.inr (.inr (.inl ⟨a,by rw [a,Int.zero_mul]⟩))))
 ·
  rcases Int.lt_trichotomy y 0 with b | b | b
  · exact .inr (.inl ⟨a,b,Int.mul_neg_of_pos_of_neg a b⟩)
  · exact .inr (.inr (.inr (.inr (.inr ⟨b,by rw [b,Int.mul_zero]⟩))))
  · exact .inl ⟨a,b,Int.mul_pos a b⟩
theorem upv_of {x y:Int} (h:¬ (x=0∧y=0)) (hl:¬ lowV x y):upV x y:=by unfold lowV upV at *;omega
theorem up_neg {x y:Int} (hl:lowV x y):upV (-x) (-y):=by unfold lowV upV at *;omega
theorem cr_sw (x y z w:Int):z*y-w*x=-(x*w-y*z):=by grind
theorem sec_core {bx b_ cx cy ux uy:Int} (hb:¬ (bx=0∧b_=0)) (hc:¬ (cx=0∧cy=0)) (hu:¬ (ux=0∧uy=0)) (hD:0<bx*cy-b_*cx) (hs:¬ (0≤bx*uy-b_*ux∧0≤ux*cy-uy*cx)) :
  (lowV bx b_∧¬ lowV cx cy→ltV ux uy bx b_∧¬ ltV ux uy cx cy)∧(¬ (lowV bx b_∧¬ lowV cx cy)→(ltV ux uy bx b_↔ltV ux uy cx cy)):=by
 have e1:ux*b_-uy*bx=-(bx*uy-b_*ux):=cr_sw bx b_ ux uy
 unfold ltV
 rw [e1]
 by_cases lb:lowV bx b_
 ·
  have ub:=up_neg lb
  by_cases lc:lowV cx cy
  ·
   refine ⟨fun g=>absurd lc g.2,fun _=>?_⟩
   have uc:=up_neg lc
   by_cases lu:lowV ux uy
   ·
    have uu:=up_neg lu
    simp only [lb,lc,lu,not_true_eq_false,and_true,false_and,iff_self,true_and,false_or]
    have k1:=cross_up uu ub uc
    have k2:=cross_up ub uu uc
    simp only [Int.neg_mul,Int.mul_neg,Int.neg_neg] at k1 k2
    omega
   · simp only [lb,lc,lu,not_false_eq_true,and_self,true_or]
  ·
   have uc:=upv_of hc lc
   refine ⟨fun _=>?_,fun g=>absurd ⟨lb,lc⟩ g⟩
   by_cases lu:lowV ux uy
   ·
    have uu:=up_neg lu
    simp only [lb,lc,lu,not_true_eq_false,and_true,false_and,iff_self,true_and,false_or,and_false,iff_false,or_false,not_false_eq_true]
    have k:=cross_up ub uu uc
    simp only [Int.neg_mul,Int.mul_neg,Int.neg_neg] at k
    omega
   ·
    have uu:=upv_of hu lu
    simp only [lb,lc,lu,not_true_eq_false,and_true,false_and,iff_self,true_and,false_or,and_false,iff_false,or_false,not_false_eq_true,true_or,false_iff,true_iff,iff_true,and_self]
    have k:=cross_up ub uu uc
    simp only [Int.neg_mul,Int.mul_neg,Int.neg_neg] at k
    omega
 ·
  have ub:=upv_of hb lb
  refine ⟨fun g=>absurd g.1 lb,fun _=>?_⟩
  by_cases lc:lowV cx cy
  ·
   have uc:=up_neg lc
   by_cases lu:lowV ux uy
   ·
    have uu:=up_neg lu
    simp only [lb,lc,lu,not_true_eq_false,and_true,false_and,iff_self,true_and,false_or,and_false,iff_false,or_false,not_false_eq_true,true_or,false_iff,true_iff,iff_true,and_self]
    have k:=cross_up ub uu uc
    simp only [Int.neg_mul,Int.mul_neg,Int.neg_neg] at k
    omega
   ·
    have uu:=upv_of hu lu
    simp only [lb,lc,lu,not_true_eq_false,and_true,false_and,iff_self,true_and,false_or,and_false,iff_false,or_false,not_false_eq_true,true_or,false_iff,true_iff,iff_true,and_self]
    have k:=cross_up ub uu uc
    simp only [Int.neg_mul,Int.mul_neg,Int.neg_neg] at k
    omega
  ·
   have uc:=upv_of hc lc
   by_cases lu:lowV ux uy
   · simp only [lb,lc,lu,not_true_eq_false,and_true,false_and,iff_self,true_and,false_or,and_false,iff_false,or_false,not_false_eq_true,true_or,false_iff,true_iff,iff_true,and_self]
   ·
    have uu:=upv_of hu lu
    simp only [lb,lc,lu,not_true_eq_false,and_true,false_and,iff_self,true_and,false_or,and_false,iff_false,or_false,not_false_eq_true,true_or,false_iff,true_iff,iff_true,and_self]
    have k1:=cross_up uu ub uc
    have k2:=cross_up ub uu uc
    omega
theorem low_hY {v b:Pt} (nv:near1 v=true) (nb:near1 b=true):lowV (b.x-v.x) (b.y-v.y)↔hY b<hY v:=by
 rw [near1_iff] at nv nb
 unfold lowV hY
 omega
theorem sec_out {A B C u:Pt} (na:near1 A=true) (nb:near1 B=true) (nc:near1 C=true) (nu:near1 u=true) (hu:u≠A) (hw:witS A B C u=false) (hm:rmeetN A u B C=0) :
  (0<tw A B C→¬ (0≤tw A B u∧0≤tw A u C))∧(tw A B C<0→¬ (tw A B u≤0∧tw A u C≤0)):=by
 have e1:tw C A u=tw A u C:=by unfold tw;grind
 have e2:tw A u B=-tw A B u:=tw_anti A B u
 have e3:tw B C A=tw A B C:=tw_rot A B C
 have e4:=tw_d A u B C
 have out:=tri_out na nb nc nu hw
 have nm:=fun h=>no_meet (fun e=>hu e.symm) hm h
 constructor
 ·
  intro hd g
  have h1:=out.1 hd
  have:=(nm (by omega)).1
  omega
 ·
  intro hd g
  have h1:=out.2 hd
  have:=(nm (by omega)).2
  omega
theorem same_dir {A B C:Pt} (na:near1 A=true) (nb:near1 B=true) (nc:near1 C=true) (hAB:A≠B) (hBC:B≠C) (hAC:A≠C) (hD:tw A B C=0) (hm:rmeetN A B B C≠2) (u:Pt):dirLt A u B↔dirLt A u C:=by
 have hno:¬ onP B C A:=fun ho=>hm (two_common na nb nb nc na nb hAB hBC hAB (onP_fst A B) (onP_snd A B) ho (onP_fst B C))
 have hb:=ne_vec.1 hAB.symm
 have hc:=ne_vec.1 hAC.symm
 have hD':(B.x-A.x)*(C.y-A.y)-(B.y-A.y)*(C.x-A.x)=0:=hD
 have hBCA:tw B C A=0:=by rw [tw_rot];exact hD
 have hno2:¬ (min (B.x-A.x) (C.x-A.x)≤0∧0≤max (B.x-A.x) (C.x-A.x)∧min (B.y-A.y) (C.y-A.y)≤0∧0≤max (B.y-A.y) (C.y-A.y)):=fun g=>hno ⟨hBCA,by omega⟩
 unfold dirLt ltV
 generalize B.x-A.x=bx at *
 generalize B.y-A.y=b_ at *
 generalize C.x-A.x=cx at *
 generalize C.y-A.y=cy at *
 generalize u.x-A.x=ux at *
 generalize u.y-A.y=uy at *
 have k1:(ux*cy-uy*cx)*bx=cx*(ux*b_-uy*bx):=by grind
 have k2:(ux*cy-uy*cx)*b_=cy*(ux*b_-uy*bx):=by grind
 have m1:=mul_sgn2 bx cy
 have m2:=mul_sgn2 b_ cx
 generalize bx*cy=m at *
 generalize b_*cx=n at *
 have same:(0<bx∧0<cx∨bx<0∧cx<0∨bx=0∧cx=0)∧(0<b_∧0<cy∨b_<0∧cy<0∨b_=0∧cy=0):=by omega
 have hl:lowV bx b_↔lowV cx cy:=by unfold lowV;omega
 have hs:0<ux*b_-uy*bx↔0<ux*cy-uy*cx:=by
  generalize ux*b_-uy*bx=s at *
  generalize ux*cy-uy*cx=t at *
  have q1:=mul_sgn2 t bx
  have q2:=mul_sgn2 cx s
  have q3:=mul_sgn2 t b_
  have q4:=mul_sgn2 cy s
  rw [k1] at q1
  rw [k2] at q3
  generalize cx*s=v1 at *
  generalize cy*s=v2 at *
  omega
 rw [hl,hs]
theorem dir_cr {A B C u:Pt} (na:near1 A=true) (nb:near1 B=true) (nc:near1 C=true) (nu:near1 u=true) (hAB:A≠B) (hBC:B≠C) (hAC:A≠C) (hu:u≠A) (hw:witS A B C u=false) (hm:rmeetN A u B C=0) (hm2:rmeetN A B B C≠2) :
  (cr1 B C A=1∧dirLt A u B∧¬ dirLt A u C)∨(cr1 B C A=-1∧¬ dirLt A u B∧dirLt A u C)∨(cr1 B C A=0∧(dirLt A u B↔dirLt A u C)):=by
 have hb:=ne_vec.1 hAB.symm
 have hc:=ne_vec.1 hAC.symm
 have hu':=ne_vec.1 hu
 have lb:=low_hY na nb
 have lc:=low_hY na nc
 have hneB:hY B≠hY A:=fun e=>hAB (hY_inj nb na e).symm
 have hneC:hY C≠hY A:=fun e=>hAC (hY_inj nc na e).symm
 have e1:tw B C A=tw A B C:=tw_rot A B C
 have e2:tw C B A=-tw A B C:=by rw [tw_swap,e1]
 obtain ⟨s1,s2⟩:=sec_out na nb nc nu hu hw hm
 have d1:tw A B C=(B.x-A.x)*(C.y-A.y)-(B.y-A.y)*(C.x-A.x):=rfl
 have d2:tw A B u=(B.x-A.x)*(u.y-A.y)-(B.y-A.y)*(u.x-A.x):=rfl
 have d3:tw A u C=(u.x-A.x)*(C.y-A.y)-(u.y-A.y)*(C.x-A.x):=rfl
 rcases Int.lt_trichotomy (tw A B C) 0 with hD | hD | hD
 ·
  have k:=sec_core (bx:=C.x-A.x) (b_:=C.y-A.y) (cx:=B.x-A.x) (cy:=B.y-A.y) (ux:=u.x-A.x) (uy:=u.y-A.y) hc hb hu' (by rw [cr_sw (B.x-A.x) (B.y-A.y) (C.x-A.x) (C.y-A.y),← d1];omega) (fun g=>s2 hD (by
   have g1:=g.1;have g2:=g.2
   rw [cr_sw (u.x-A.x) (u.y-A.y) (C.x-A.x) (C.y-A.y),← d3] at g1
   rw [cr_sw (B.x-A.x) (B.y-A.y) (u.x-A.x) (u.y-A.y),← d2] at g2
   omega))
  rw [lb,lc] at k
  by_cases c:hY C<hY A∧¬ hY B<hY A
  ·
   right;left
   refine ⟨?_,(k.1 c).2,(k.1 c).1⟩
   unfold cr1
   rw [if_neg (by omega),if_pos (by omega)]
  ·
   right;right
   refine ⟨?_,(k.2 c).symm⟩
   unfold cr1
   rw [if_neg (by omega),if_neg (by omega)]
 ·
  right;right
  refine ⟨?_,same_dir na nb nc hAB hBC hAC hD hm2 u⟩
  unfold cr1
  rw [if_neg (by omega),if_neg (by omega)]
 ·
  have k:=sec_core (bx:=B.x-A.x) (b_:=B.y-A.y) (cx:=C.x-A.x) (cy:=C.y-A.y) (ux:=u.x-A.x) (uy:=u.y-A.y) hb hc hu' hD (fun g=>s1 hD ⟨g.1,g.2⟩)
  rw [lb,lc] at k
  by_cases c:hY B<hY A∧¬ hY C<hY A
  ·
   left
   refine ⟨?_,(k.1 c).1,(k.1 c).2⟩
   unfold cr1
   rw [if_pos (by omega)]
  ·
   right;right
   refine ⟨?_,k.2 c⟩
   unfold cr1
   rw [if_neg (by omega),if_neg (by omega)]
theorem witS_rev (a b c q:Pt):witS c b a q=witS a b c q:=by
 have rot:∀ a b c:Pt,witS b c a q=witS a b c q:=fun a b c=>by
  unfold witS
  rw [Bool.eq_iff_iff]
  simp only [Bool.or_eq_true,Bool.and_eq_true,decide_eq_true_eq]
  constructor
  ·
   rintro (((h | h) | h) | h)
   · exact .inl (.inl (.inr h))
   · exact .inl (.inr h)
   · exact .inl (.inl (.inl h))
   · exact .inr (by omega)
  ·
   rintro (((h | h) | h) | h)
   · exact .inl (.inr h)
   · exact .inl (.inl (.inl h))
   · exact .inl (.inl (.inr h))
   · exact .inr (by omega)
 rw [← witS_swap c b a q]
 exact rot a b c
theorem sort_rot {ltp ltq:Int→Int→Bool} {D:List Int} (hp:OrdOn ltp D) (hq:OrdOn ltq D) (Q:Int→Bool) (h1:∀ a∈D,∀ b∈D,ltp b a=false→Q a=true→Q b=true)
  (h2:∀ a∈D,∀ b∈D,Q a=Q b→ltp b a=false→ltq b a=false) (h3:∀ a∈D,∀ b∈D,Q a=true→Q b=false→ltq b a=false):∃ A B,sortB ltp D=A++B∧sortB ltq D=B++A:=by
 obtain ⟨f1,f2⟩:=sortB_facts hp
 have hsub:∀ d∈sortB ltp D,d∈D:=fun d hd=>f1.subset hd
 have hcut:=sorted_cut (Q:=Q) f2 (fun a ha b hb hab hQa=>h1 a (hsub a ha) b (hsub b hb) hab hQa)
 refine ⟨_,_,hcut,?_⟩
 symm
 refine sortB_of hq ?_ ?_
 ·
  refine List.perm_append_comm.trans ?_
  rw [← hcut]
  exact f1
 ·
  rw [List.pairwise_append]
  have inner:∀ (f:Int→Bool) (z:Bool),(∀ d,f d=true→Q d=z)→((sortB ltp D).filter f).Pairwise (fun a b=>ltq b a=false):=fun f z hf=>by
   refine List.Pairwise.imp_of_mem (fun {a b} ha hb hab=>?_) (f2.filter f)
   obtain ⟨a1,a2⟩:=List.mem_filter.1 ha
   obtain ⟨b1,b2⟩:=List.mem_filter.1 hb
   exact h2 a (hsub a a1) b (hsub b b1) (by rw [hf a a2,hf b b2]) hab
  refine ⟨inner Q true (fun d hd=>hd),inner _ false (fun d hd=>by simpa using hd),fun a ha b hb=>?_⟩
  obtain ⟨a1,a2⟩:=List.mem_filter.1 ha
  obtain ⟨b1,b2⟩:=List.mem_filter.1 hb
  exact h3 a (hsub a a1) b (hsub b b1) a2 (by simpa using b2)
theorem rot_one {ltp ltq:Int→Int→Bool} {D:List Int} (hp:OrdOn ltp D) (hq:OrdOn ltq D) (d0:Int) (c:Int) (e1:∀ d∈D,∀ e∈D,d≠d0→e≠d0→ltq d e=ltp d e)
  (e2:d0∈D→∀ d∈D,d≠d0→(c=1∧ltp d d0=true∧ltq d d0=false)∨(c=-1∧ltp d d0=false∧ltq d d0=true)∨(c=0∧ltp d d0=ltq d d0)):∃ A B,sortB ltp D=A++B∧sortB ltq D=B++A:=by
 have irr:∀ d∈D,ltq d d=false:=fun d hd=>by
  cases e:ltq d d
  · rfl
  · have:=hq.asym d hd d hd e;rw [e] at this;cases this
 by_cases c1:c=1
 ·
  refine sort_rot hp hq (fun d=>decide (d=d0)) (fun a ha b hb hab hQ=>?_) (fun a ha b hb hQ hab=>?_) (fun a ha b hb hQa hQb=>?_)
  ·
   have h0:=of_decide_eq_true hQ
   subst h0
   refine decide_eq_true (Classical.byContradiction fun hne=>?_)
   rcases e2 ha b hb hne with ⟨-,g,-⟩ | ⟨g,-⟩ | ⟨g,-⟩
   · rw [hab] at g;cases g
   · omega
   · omega
  ·
   by_cases ea:a=d0
   ·
    have eb:b=d0:=by rw [decide_eq_true ea] at hQ;exact of_decide_eq_true hQ.symm
    rw [ea,eb];exact irr d0 (ea ▸ ha)
   ·
    have eb:b≠d0:=by rw [decide_eq_false ea] at hQ;exact of_decide_eq_false hQ.symm
    rw [e1 b hb a ha eb ea];exact hab
  ·
   have h0:=of_decide_eq_true hQa
   subst h0
   rcases e2 ha b hb (of_decide_eq_false hQb) with ⟨-,-,g⟩ | ⟨g,-⟩ | ⟨g,-⟩
   · exact g
   · omega
   · omega
 ·
  by_cases c2:c=-1
  ·
   refine sort_rot hp hq (fun d=>decide (d≠d0)) (fun a ha b hb hab hQ=>?_) (fun a ha b hb hQ hab=>?_) (fun a ha b hb hQa hQb=>?_)
   ·
    have h0:=of_decide_eq_true hQ
    refine decide_eq_true fun hb0=>?_
    subst hb0
    rcases e2 hb a ha h0 with ⟨g,-⟩ | ⟨-,g,-⟩ | ⟨g,-⟩
    · omega
    · exact h0 (hp.tri a ha b hb g hab)
    · omega
   ·
    by_cases ea:a=d0
    ·
     have eb:b=d0:=by
      apply Classical.byContradiction
      intro hb0
      rw [decide_eq_false (by simpa using ea),decide_eq_true (by simpa using hb0)] at hQ
      cases hQ
     rw [ea,eb];exact irr d0 (ea ▸ ha)
    ·
     have eb:b≠d0:=by
      rw [decide_eq_true (by simpa using ea)] at hQ
      exact of_decide_eq_true hQ.symm
     rw [e1 b hb a ha eb ea];exact hab
   ·
    have h0:=of_decide_eq_true hQa
    have hb0:b=d0:=by
     have:=of_decide_eq_false hQb
     exact Classical.byContradiction this
    subst hb0
    rcases e2 hb a ha h0 with ⟨g,-⟩ | ⟨-,-,g⟩ | ⟨g,-⟩
    · omega
    · exact hq.asym a ha b hb g
    · omega
  ·
   refine sort_rot hp hq (fun _=>false) (fun a ha b hb hab hQ=>hQ) (fun a ha b hb _ hab=>?_) (fun a ha b hb hQa _=>by cases hQa)
   have third:d0∈D→∀ d∈D,d≠d0→ltp d d0=ltq d d0:=fun h0 d hd hne=>by
    rcases e2 h0 d hd hne with ⟨g,-⟩ | ⟨g,-⟩ | ⟨-,g⟩
    · exact absurd g c1
    · exact absurd g c2
    · exact g
   by_cases ea:a=d0
   ·
    by_cases eb:b=d0
    · rw [ea,eb];exact irr d0 (ea ▸ ha)
    ·
     subst ea
     rw [← third ha b hb eb];exact hab
   ·
    by_cases eb:b=d0
    ·
     subst eb
     cases e:ltp a b
     · exact absurd (hp.tri a ha b hb e hab) ea
     · exact hq.asym a ha b hb (by rw [← third hb a ha ea];exact e)
    · rw [e1 b hb a ha eb ea];exact hab
end Go.Proofs.YtnhdmghgjngcaaaGreat
