import Derived.Test.YtnhdmghgjngcaaaGreatJ36
import Derived.Test.YtnhdmghgjngcaaaGreatJ40
import Derived.Test.YtnhdmghgjngcaaaGreatJ32
set_option linter.unusedSimpArgs false
set_option linter.unusedVariables false
namespace Go.Proofs.YtnhdmghgjngcaaaGreat
open Go.RowKit
set_option linter.unusedSectionVars false

theorem mul_sgn2 (x y:Int):(0<x∧0<y∧0<x*y)∨(0<x∧y<0∧x*y<0)∨(x<0∧0<y∧x*y<0)∨(x<0∧y<0∧0<x*y)∨(x=0∧x*y=0)∨(y=0∧x*y=0):=by
 rcases Int.lt_trichotomy x 0 with a | a | a
 ·
  rcases Int.lt_trichotomy y 0 with b | b | b
  · exact .inr (.inr (.inr (.inl ⟨a,b,Int.mul_pos_of_neg_of_neg a b⟩)))
  · exact .inr (.inr (.inr (.inr (.inr ⟨b,by rw [b,Int.mul_zero]⟩))))
  · exact .inr (.inr (.inl ⟨a,b,Int.mul_neg_of_neg_of_pos a b⟩))
 · exact .inr (.inr (.inr (.inr (.inl ⟨a,by rw [a,Int.zero_mul]⟩))))
 ·
  rcases Int.lt_trichotomy y 0 with b | b | b
  · exact .inr (.inl ⟨a,b,Int.mul_neg_of_pos_of_neg a b⟩)
  · exact .inr (.inr (.inr (.inr (.inr ⟨b,by rw [b,Int.mul_zero]⟩))))
  · exact .inl ⟨a,b,Int.mul_pos a b⟩
theorem upv_of {x y:Int} (h:¬ (x=0∧y=0)) (hl:¬ lowV x y):upV x y:=by unfold lowV upV at *;omega
theorem up_neg {x y:Int} (hl:lowV x y):upV (-x) (-y):=by unfold lowV upV at *;omega
theorem cr_sw (x y z w:Int):z*y-w*x=-(x*w-y*z):=by grind
theorem sec_core {bx b_ cx cy ux uy:Int} (hb:¬ (bx=0∧b_=0)) (hc:¬ (cx=0∧cy=0)) (hu:¬ (ux=0∧uy=0)) (hD:0<bx*cy-b_*cx) (hs:¬ (0≤bx*uy-b_*ux∧0≤ux*cy-uy*cx)) :
  (lowV bx b_∧¬ lowV cx cy→ltV ux uy bx b_∧¬ ltV ux uy cx cy)∧(¬ (lowV bx b_∧¬ lowV cx cy)→(ltV ux uy bx b_↔ltV ux uy cx cy)):=by
 have e1:ux*b_-uy*bx=-(bx*uy-b_*ux):=cr_sw bx b_ ux uy
 unfold ltV
 rw [e1]
 by_cases lb:lowV bx b_
 ·
  have ub:=up_neg lb
  by_cases lc:lowV cx cy
  ·
   refine ⟨fun g=>absurd lc g.2,fun _=>?_⟩
   have uc:=up_neg lc
   by_cases lu:lowV ux uy
   ·
    have uu:=up_neg lu
    simp only [lb,lc,lu,not_true_eq_false,and_true,false_and,iff_self,true_and,false_or]
    have k1:=cross_up uu ub uc
    have k2:=cross_up ub uu uc
    simp only [Int.neg_mul,Int.mul_neg,Int.neg_neg] at k1 k2
    omega
   · simp only [lb,lc,lu,not_false_eq_true,and_self,true_or]
  ·
   have uc:=upv_of hc lc
   refine ⟨fun _=>?_,fun g=>absurd ⟨lb,lc⟩ g⟩
   by_cases lu:lowV ux uy
   ·
    have uu:=up_neg lu
    simp only [lb,lc,lu,not_true_eq_false,and_true,false_and,iff_self,true_and,false_or,and_false,iff_false,or_false,not_false_eq_true]
    have k:=cross_up ub uu uc
    simp only [Int.neg_mul,Int.mul_neg,Int.neg_neg] at k
    omega
   ·
    have uu:=upv_of hu lu
    simp only [lb,lc,lu,not_true_eq_false,and_true,false_and,iff_self,true_and,false_or,and_false,iff_false,or_false,not_false_eq_true,true_or,false_iff,true_iff,iff_true,and_self]
    have k:=cross_up ub uu uc
    simp only [Int.neg_mul,Int.mul_neg,Int.neg_neg] at k
    omega
 ·
  have ub:=upv_of hb lb
  refine ⟨fun g=>absurd g.1 lb,fun _=>?_⟩
  by_cases lc:lowV cx cy
  ·
   have uc:=up_neg lc
   by_cases lu:lowV ux uy
   ·
    have uu:=up_neg lu
    simp only [lb,lc,lu,not_true_eq_false,and_true,false_and,iff_self,true_and,false_or,and_false,iff_false,or_false,not_false_eq_true,true_or,false_iff,true_iff,iff_true,and_self]
    have k:=cross_up ub uu uc
    simp only [Int.neg_mul,Int.mul_neg,Int.neg_neg] at k
    omega
   ·
    have uu:=upv_of hu lu
    simp only [lb,lc,lu,not_true_eq_false,and_true,false_and,iff_self,true_and,false_or,and_false,iff_false,or_false,not_false_eq_true,true_or,false_iff,true_iff,iff_true,and_self]
    have k:=cross_up ub uu uc
    simp only [Int.neg_mul,Int.mul_neg,Int.neg_neg] at k
    omega
  ·
   have uc:=upv_of hc lc
   by_cases lu:lowV ux uy
   · simp only [lb,lc,lu,not_true_eq_false,and_true,false_and,iff_self,true_and,false_or,and_false,iff_false,or_false,not_false_eq_true,true_or,false_iff,true_iff,iff_true,and_self]
   ·
    have uu:=upv_of hu lu
    simp only [lb,lc,lu,not_true_eq_false,and_true,false_and,iff_self,true_and,false_or,and_false,iff_false,or_false,not_false_eq_true,true_or,false_iff,true_iff,iff_true,and_self]
    have k1:=cross_up uu ub uc
    have k2:=cross_up ub uu uc
    omega
theorem low_hY {v b:Pt} (nv:near1 v=true) (nb:near1 b=true):lowV (b.x-v.x) (b.y-v.y)↔hY b<hY v:=by
 rw [near1_iff] at nv nb
 unfold lowV hY
 omega
theorem sec_out {A B C u:Pt} (na:near1 A=true) (nb:near1 B=true) (nc:near1 C=true) (nu:near1 u=true) (hu:u≠A) (hw:witS A B C u=false) (hm:rmeetN A u B C=0) :
  (0<tw A B C→¬ (0≤tw A B u∧0≤tw A u C))∧(tw A B C<0→¬ (tw A B u≤0∧tw A u C≤0)):=by
 have e1:tw C A u=tw A u C:=by unfold tw;grind
 have e2:tw A u B=-tw A B u:=tw_anti A B u
 have e3:tw B C A=tw A B C:=tw_rot A B C
 have e4:=tw_d A u B C
 have out:=tri_out na nb nc nu hw
 have nm:=fun h=>no_meet (fun e=>hu e.symm) hm h
 constructor
 ·
  intro hd g
  have h1:=out.1 hd
  have:=(nm (by omega)).1
  omega
 ·
  intro hd g
  have h1:=out.2 hd
  have:=(nm (by omega)).2
  omega
theorem same_dir {A B C:Pt} (na:near1 A=true) (nb:near1 B=true) (nc:near1 C=true) (hAB:A≠B) (hBC:B≠C) (hAC:A≠C) (hD:tw A B C=0) (hm:rmeetN A B B C≠2) (u:Pt):dirLt A u B↔dirLt A u C:=by
 have hno:¬ onP B C A:=fun ho=>hm (two_common na nb nb nc na nb hAB hBC hAB (onP_fst A B) (onP_snd A B) ho (onP_fst B C))
 have hb:=ne_vec.1 hAB.symm
 have hc:=ne_vec.1 hAC.symm
 have hD':(B.x-A.x)*(C.y-A.y)-(B.y-A.y)*(C.x-A.x)=0:=hD
 have hBCA:tw B C A=0:=by rw [tw_rot];exact hD
 have hno2:¬ (min (B.x-A.x) (C.x-A.x)≤0∧0≤max (B.x-A.x) (C.x-A.x)∧min (B.y-A.y) (C.y-A.y)≤0∧0≤max (B.y-A.y) (C.y-A.y)):=fun g=>hno ⟨hBCA,by omega⟩
 unfold dirLt ltV
 generalize B.x-A.x=bx at *
 generalize B.y-A.y=b_ at *
 generalize C.x-A.x=cx at *
 generalize C.y-A.y=cy at *
 generalize u.x-A.x=ux at *
 generalize u.y-A.y=uy at *
 have k1:(ux*cy-uy*cx)*bx=cx*(ux*b_-uy*bx):=by grind
 have k2:(ux*cy-uy*cx)*b_=cy*(ux*b_-uy*bx):=by grind
 have m1:=mul_sgn2 bx cy
 have m2:=mul_sgn2 b_ cx
 generalize bx*cy=m at *
 generalize b_*cx=n at *
 have same:(0<bx∧0<cx∨bx<0∧cx<0∨bx=0∧cx=0)∧(0<b_∧0<cy∨b_<0∧cy<0∨b_=0∧cy=0):=by omega
 have hl:lowV bx b_↔lowV cx cy:=by unfold lowV;omega
 have hs:0<ux*b_-uy*bx↔0<ux*cy-uy*cx:=by
  generalize ux*b_-uy*bx=s at *
  generalize ux*cy-uy*cx=t at *
  have q1:=mul_sgn2 t bx
  have q2:=mul_sgn2 cx s
  have q3:=mul_sgn2 t b_
  have q4:=mul_sgn2 cy s
  rw [k1] at q1
  rw [k2] at q3
  generalize cx*s=v1 at *
  generalize cy*s=v2 at *
  omega
 rw [hl,hs]
theorem dir_cr {A B C u:Pt} (na:near1 A=true) (nb:near1 B=true) (nc:near1 C=true) (nu:near1 u=true) (hAB:A≠B) (hBC:B≠C) (hAC:A≠C) (hu:u≠A) (hw:witS A B C u=false) (hm:rmeetN A u B C=0) (hm2:rmeetN A B B C≠2) :
  (cr1 B C A=1∧dirLt A u B∧¬ dirLt A u C)∨(cr1 B C A=-1∧¬ dirLt A u B∧dirLt A u C)∨(cr1 B C A=0∧(dirLt A u B↔dirLt A u C)):=by
 have hb:=ne_vec.1 hAB.symm
 have hc:=ne_vec.1 hAC.symm
 have hu':=ne_vec.1 hu
 have lb:=low_hY na nb
 have lc:=low_hY na nc
 have hneB:hY B≠hY A:=fun e=>hAB (hY_inj nb na e).symm
 have hneC:hY C≠hY A:=fun e=>hAC (hY_inj nc na e).symm
 have e1:tw B C A=tw A B C:=tw_rot A B C
 have e2:tw C B A=-tw A B C:=by rw [tw_swap,e1]
 obtain ⟨s1,s2⟩:=sec_out na nb nc nu hu hw hm
 have d1:tw A B C=(B.x-A.x)*(C.y-A.y)-(B.y-A.y)*(C.x-A.x):=rfl
 have d2:tw A B u=(B.x-A.x)*(u.y-A.y)-(B.y-A.y)*(u.x-A.x):=rfl
 have d3:tw A u C=(u.x-A.x)*(C.y-A.y)-(u.y-A.y)*(C.x-A.x):=rfl
 rcases Int.lt_trichotomy (tw A B C) 0 with hD | hD | hD
 ·
  have k:=sec_core (bx:=C.x-A.x) (b_:=C.y-A.y) (cx:=B.x-A.x) (cy:=B.y-A.y) (ux:=u.x-A.x) (uy:=u.y-A.y) hc hb hu' (by rw [cr_sw (B.x-A.x) (B.y-A.y) (C.x-A.x) (C.y-A.y),← d1];omega) (fun g=>s2 hD (by
   have g1:=g.1;have g2:=g.2
   rw [cr_sw (u.x-A.x) (u.y-A.y) (C.x-A.x) (C.y-A.y),← d3] at g1
   rw [cr_sw (B.x-A.x) (B.y-A.y) (u.x-A.x) (u.y-A.y),← d2] at g2
   omega))
  rw [lb,lc] at k
  by_cases c:hY C<hY A∧¬ hY B<hY A
  ·
   right;left
   refine ⟨?_,(k.1 c).2,(k.1 c).1⟩
   unfold cr1
   rw [if_neg (by omega),if_pos (by omega)]
  ·
   right;right
   refine ⟨?_,(k.2 c).symm⟩
   unfold cr1
   rw [if_neg (by omega),if_neg (by omega)]
 ·
  right;right
  refine ⟨?_,same_dir na nb nc hAB hBC hAC hD hm2 u⟩
  unfold cr1
  rw [if_neg (by omega),if_neg (by omega)]
 ·
  have k:=sec_core (bx:=B.x-A.x) (b_:=B.y-A.y) (cx:=C.x-A.x) (cy:=C.y-A.y) (ux:=u.x-A.x) (uy:=u.y-A.y) hb hc hu' hD (fun g=>s1 hD ⟨g.1,g.2⟩)
  rw [lb,lc] at k
  by_cases c:hY B<hY A∧¬ hY C<hY A
  ·
   left
   refine ⟨?_,(k.1 c).1,(k.1 c).2⟩
   unfold cr1
   rw [if_pos (by omega)]
  ·
   right;right
   refine ⟨?_,k.2 c⟩
   unfold cr1
   rw [if_neg (by omega),if_neg (by omega)]
theorem witS_rev (a b c q:Pt):witS c b a q=witS a b c q:=by
 have rot:∀ a b c:Pt,witS b c a q=witS a b c q:=fun a b c=>by
  unfold witS
  rw [Bool.eq_iff_iff]
  simp only [Bool.or_eq_true,Bool.and_eq_true,decide_eq_true_eq]
  constructor
  ·
   rintro (((h | h) | h) | h)
   · exact .inl (.inl (.inr h))
   · exact .inl (.inr h)
   · exact .inl (.inl (.inl h))
   · exact .inr (by omega)
  ·
   rintro (((h | h) | h) | h)
   · exact .inl (.inr h)
   · exact .inl (.inl (.inl h))
   · exact .inl (.inl (.inr h))
   · exact .inr (by omega)
 rw [← witS_swap c b a q]
 exact rot a b c
theorem sort_rot {ltp ltq:Int→Int→Bool} {D:List Int} (hp:OrdOn ltp D) (hq:OrdOn ltq D) (Q:Int→Bool) (h1:∀ a∈D,∀ b∈D,ltp b a=false→Q a=true→Q b=true)
  (h2:∀ a∈D,∀ b∈D,Q a=Q b→ltp b a=false→ltq b a=false) (h3:∀ a∈D,∀ b∈D,Q a=true→Q b=false→ltq b a=false):∃ A B,sortB ltp D=A++B∧sortB ltq D=B++A:=by
 obtain ⟨f1,f2⟩:=sortB_facts hp
 have hsub:∀ d∈sortB ltp D,d∈D:=fun d hd=>f1.subset hd
 have hcut:=sorted_cut (Q:=Q) f2 (fun a ha b hb hab hQa=>h1 a (hsub a ha) b (hsub b hb) hab hQa)
 refine ⟨_,_,hcut,?_⟩
 symm
 refine sortB_of hq ?_ ?_
 ·
  refine List.perm_append_comm.trans ?_
  rw [← hcut]
  exact f1
 ·
  rw [List.pairwise_append]
  have inner:∀ (f:Int→Bool) (z:Bool),(∀ d,f d=true→Q d=z)→((sortB ltp D).filter f).Pairwise (fun a b=>ltq b a=false):=fun f z hf=>by
   refine List.Pairwise.imp_of_mem (fun {a b} ha hb hab=>?_) (f2.filter f)
   obtain ⟨a1,a2⟩:=List.mem_filter.1 ha
   obtain ⟨b1,b2⟩:=List.mem_filter.1 hb
   exact h2 a (hsub a a1) b (hsub b b1) (by rw [hf a a2,hf b b2]) hab
  refine ⟨inner Q true (fun d hd=>hd),inner _ false (fun d hd=>by simpa using hd),fun a ha b hb=>?_⟩
  obtain ⟨a1,a2⟩:=List.mem_filter.1 ha
  obtain ⟨b1,b2⟩:=List.mem_filter.1 hb
  exact h3 a (hsub a a1) b (hsub b b1) a2 (by simpa using b2)
theorem rot_one {ltp ltq:Int→Int→Bool} {D:List Int} (hp:OrdOn ltp D) (hq:OrdOn ltq D) (d0:Int) (c:Int) (e1:∀ d∈D,∀ e∈D,d≠d0→e≠d0→ltq d e=ltp d e)
  (e2:d0∈D→∀ d∈D,d≠d0→(c=1∧ltp d d0=true∧ltq d d0=false)∨(c=-1∧ltp d d0=false∧ltq d d0=true)∨(c=0∧ltp d d0=ltq d d0)):∃ A B,sortB ltp D=A++B∧sortB ltq D=B++A:=by
 have irr:∀ d∈D,ltq d d=false:=fun d hd=>by
  cases e:ltq d d
  · rfl
  · have:=hq.asym d hd d hd e;rw [e] at this;cases this
 by_cases c1:c=1
 ·
  refine sort_rot hp hq (fun d=>decide (d=d0)) (fun a ha b hb hab hQ=>?_) (fun a ha b hb hQ hab=>?_) (fun a ha b hb hQa hQb=>?_)
  ·
   have h0:=of_decide_eq_true hQ
   subst h0
   refine decide_eq_true (Classical.byContradiction fun hne=>?_)
   rcases e2 ha b hb hne with ⟨-,g,-⟩ | ⟨g,-⟩ | ⟨g,-⟩
   · rw [hab] at g;cases g
   · omega
   · omega
  ·
   by_cases ea:a=d0
   ·
    have eb:b=d0:=by rw [decide_eq_true ea] at hQ;exact of_decide_eq_true hQ.symm
    rw [ea,eb];exact irr d0 (ea ▸ ha)
   ·
    have eb:b≠d0:=by rw [decide_eq_false ea] at hQ;exact of_decide_eq_false hQ.symm
    rw [e1 b hb a ha eb ea];exact hab
  ·
   have h0:=of_decide_eq_true hQa
   subst h0
   rcases e2 ha b hb (of_decide_eq_false hQb) with ⟨-,-,g⟩ | ⟨g,-⟩ | ⟨g,-⟩
   · exact g
   · omega
   · omega
 ·
  by_cases c2:c=-1
  ·
   refine sort_rot hp hq (fun d=>decide (d≠d0)) (fun a ha b hb hab hQ=>?_) (fun a ha b hb hQ hab=>?_) (fun a ha b hb hQa hQb=>?_)
   ·
    have h0:=of_decide_eq_true hQ
    refine decide_eq_true fun hb0=>?_
    subst hb0
    rcases e2 hb a ha h0 with ⟨g,-⟩ | ⟨-,g,-⟩ | ⟨g,-⟩
    · omega
    · exact h0 (hp.tri a ha b hb g hab)
    · omega
   ·
    by_cases ea:a=d0
    ·
     have eb:b=d0:=by
      apply Classical.byContradiction
      intro hb0
      rw [decide_eq_false (by simpa using ea),decide_eq_true (by simpa using hb0)] at hQ
      cases hQ
     rw [ea,eb];exact irr d0 (ea ▸ ha)
    ·
     have eb:b≠d0:=by
      rw [decide_eq_true (by simpa using ea)] at hQ
      exact of_decide_eq_true hQ.symm
     rw [e1 b hb a ha eb ea];exact hab
   ·
    have h0:=of_decide_eq_true hQa
    have hb0:b=d0:=by
     have:=of_decide_eq_false hQb
     exact Classical.byContradiction this
    subst hb0
    rcases e2 hb a ha h0 with ⟨g,-⟩ | ⟨-,-,g⟩ | ⟨g,-⟩
    · omega
    · exact hq.asym a ha b hb g
    · omega
  ·
   refine sort_rot hp hq (fun _=>false) (fun a ha b hb hab hQ=>hQ) (fun a ha b hb _ hab=>?_) (fun a ha b hb hQa _=>by cases hQa)
   have third:d0∈D→∀ d∈D,d≠d0→ltp d d0=ltq d d0:=fun h0 d hd hne=>by
    rcases e2 h0 d hd hne with ⟨g,-⟩ | ⟨g,-⟩ | ⟨-,g⟩
    · exact absurd g c1
    · exact absurd g c2
    · exact g
   by_cases ea:a=d0
   ·
    by_cases eb:b=d0
    · rw [ea,eb];exact irr d0 (ea ▸ ha)
    ·
     subst ea
     rw [← third ha b hb eb];exact hab
   ·
    by_cases eb:b=d0
    ·
     subst eb
     cases e:ltp a b
     · exact absurd (hp.tri a ha b hb e hab) ea
     · exact hq.asym a ha b hb (by rw [← third hb a ha ea];exact e)
    · rw [e1 b hb a ha eb ea];exact hab
end Go.Proofs.YtnhdmghgjngcaaaGreat
namespace Go.Proofs.YtnhdmghgjngcaaaGreat
open Go.RowKit
set_option linter.unusedSectionVars false

section
variable {p:Pl} (h:Valid p)
include h
theorem Valid.ltD_iff {n:Nd} (hn:n∈p.nodes) {d e:Int} (hd:d∈dartL p.arcs n.id) (he:e∈dartL p.arcs n.id):ltD p n.pt d e=true↔dirLt n.pt (toD p d) (toD p e):=by
 obtain ⟨n0,n1,x1⟩:=h.to_facts hn hd
 obtain ⟨-,n2,x2⟩:=h.to_facts hn he
 unfold ltD
 rw [less_iff]
 exact ⟨fun h=>h.2.2.2,fun h=>⟨by simp [nears,n0,n1,n2],x1,x2,h⟩⟩
end
section
variable {p:Pl} (h:Valid p) {a:Ar} (ha:a∈p.arcs) {k:Nat} (hk:k<a.via.length) (hf:FreeAt p a k)
include h ha hk hf
theorem Valid.fr_ray {c:Ar} (hc:c∈p.arcs) {m:Nat} (hm:m+1<(pathS p c).length) (hne:¬ (c=a∧(m=k∨m=k+1))) {v u:Pt} (hvu:((pathS p c).getD m pt0=v∧(pathS p c).getD (m+1) pt0=u)∨((pathS p c).getD (m+1) pt0=v∧(pathS p c).getD m pt0=u)) :
  (v=(pathS p a).getD k pt0→witS ((pathS p a).getD k pt0) ((pathS p a).getD (k+1) pt0) ((pathS p a).getD (k+2) pt0) u=false∧rmeetN v u ((pathS p a).getD (k+1) pt0) ((pathS p a).getD (k+2) pt0)=0) ∧
  (v=(pathS p a).getD (k+2) pt0→witS ((pathS p a).getD k pt0) ((pathS p a).getD (k+1) pt0) ((pathS p a).getD (k+2) pt0) u=false∧rmeetN v u ((pathS p a).getD (k+1) pt0) ((pathS p a).getD k pt0)=0):=by
 have hl:=pathS_length p a;have hlc:=pathS_length p c
 obtain ⟨n1,n2,n3⟩:=h.fr_ne ha hk hf
 have B:=h.fr_beside ha hk hf hc hm hne
 have nA:=h.pt_near ha (k:=k) (by omega);have nB:=h.pt_near ha (k:=k+1) (by omega);have nC:=h.pt_near ha (k:=k+2) (by omega)
 have ns:=h.pt_near hc (k:=m) (by omega);have nt:=h.pt_near hc hm
 generalize (pathS p a).getD k pt0=A at *
 generalize (pathS p a).getD (k+1) pt0=Bm at *
 generalize (pathS p a).getD (k+2) pt0=C at *
 generalize (pathS p c).getD m pt0=s at *
 generalize (pathS p c).getD (m+1) pt0=t at *
 have flip1:∀ {x y z w:Pt},near1 x=true→near1 y=true→near1 z=true→near1 w=true→rmeetN y x z w=rmeetN x y z w:=fun {x y z w} a b c d=>by
  have:=rmeet_flip x y z w
  unfold rmeetS at this
  rwa [if_pos (near4 b a c d),if_pos (near4 a b c d)] at this
 have flip2:∀ {x y z w:Pt},near1 x=true→near1 y=true→near1 z=true→near1 w=true→rmeetN x y w z=rmeetN x y z w:=fun {x y z w} a b c d=>by
  have:=rmeet_flip2 x y z w
  unfold rmeetS at this
  rwa [if_pos (near4 a b d c),if_pos (near4 a b c d)] at this
 obtain ⟨x1,x2⟩:=B.no
 have hst:=B.ne
 have key:∀ {z:Pt},witS A Bm C z=true→(z=A∨z=C)→True:=fun _ _=>trivial
 rcases hvu with ⟨rfl,rfl⟩ | ⟨rfl,rfl⟩
 ·
  constructor
  ·
   intro e
   subst e
   have ht:t≠C:=fun e=>x1 ⟨rfl,e⟩
   refine ⟨?_,?_⟩
   ·
    cases g:witS s Bm C t
    · rfl
    ·
     rcases B.out2 g with g | g
     · exact absurd g.symm hst
     · exact absurd g ht
   ·
    apply Classical.byContradiction
    intro g
    rcases B.m2 g with g | g
    · exact n3 g
    · exact ht g
  ·
   intro e
   subst e
   have ht:t≠A:=fun e=>x2 ⟨rfl,e⟩
   refine ⟨?_,?_⟩
   ·
    cases g:witS A Bm s t
    · rfl
    ·
     rcases B.out2 g with g | g
     · exact absurd g ht
     · exact absurd g.symm hst
   ·
    apply Classical.byContradiction
    intro g
    rw [flip2 ns nt nA nB] at g
    rcases B.m1 g with g | g
    · exact n3 g.symm
    · exact ht g
 ·
  constructor
  ·
   intro e
   subst e
   have ht:s≠C:=fun e=>x2 ⟨e,rfl⟩
   refine ⟨?_,?_⟩
   ·
    cases g:witS t Bm C s
    · rfl
    ·
     rcases B.out1 g with g | g
     · exact absurd g hst
     · exact absurd g ht
   ·
    apply Classical.byContradiction
    intro g
    rw [flip1 ns nt nB nC] at g
    rcases B.m2 g with g | g
    · exact ht g
    · exact n3 g
  ·
   intro e
   subst e
   have ht:s≠A:=fun e=>x1 ⟨e,rfl⟩
   refine ⟨?_,?_⟩
   ·
    cases g:witS A Bm t s
    · rfl
    ·
     rcases B.out1 g with g | g
     · exact absurd g ht
     · exact absurd g hst
   ·
    apply Classical.byContradiction
    intro g
    rw [flip1 ns nt nB nA,flip2 ns nt nA nB] at g
    rcases B.m1 g with g | g
    · exact ht g
    · exact n3 g.symm
theorem Valid.fr_two:rmeetN ((pathS p a).getD k pt0) ((pathS p a).getD (k+1) pt0) ((pathS p a).getD (k+1) pt0) ((pathS p a).getD (k+2) pt0)≠2:=by
 have hl:=pathS_length p a
 have h1:=h.segs.2.1 a ha k (k+1) (by omega) (by omega)
 unfold apartS at h1
 rw [h.meetN ha ha (by omega) (by omega)] at h1
 intro e
 rw [e] at h1
 split at h1<;>simp at h1
theorem Valid.fr_atA (hk0:k=0) {n:Nd} (hn:n∈p.nodes) (hid:a.fr=n.id) {d:Int} (hd:d∈dartL p.arcs n.id) (hne:d≠a.id) :
  n.pt=(pathS p a).getD k pt0∧((cr1 ((pathS p a).getD (k+1) pt0) ((pathS p a).getD (k+2) pt0) n.pt=1∧dirLt n.pt (toD p d) ((pathS p a).getD (k+1) pt0)∧¬ dirLt n.pt (toD p d) ((pathS p a).getD (k+2) pt0)) ∨
   (cr1 ((pathS p a).getD (k+1) pt0) ((pathS p a).getD (k+2) pt0) n.pt=-1∧¬ dirLt n.pt (toD p d) ((pathS p a).getD (k+1) pt0)∧dirLt n.pt (toD p d) ((pathS p a).getD (k+2) pt0)) ∨
   (cr1 ((pathS p a).getD (k+1) pt0) ((pathS p a).getD (k+2) pt0) n.pt=0∧(dirLt n.pt (toD p d) ((pathS p a).getD (k+1) pt0)↔dirLt n.pt (toD p d) ((pathS p a).getD (k+2) pt0)))):=by
 have hl:=pathS_length p a
 obtain ⟨n1,n2,n3⟩:=h.fr_ne ha hk hf
 have nA:=h.pt_near ha (k:=k) (by omega);have nB:=h.pt_near ha (k:=k+1) (by omega);have nC:=h.pt_near ha (k:=k+2) (by omega)
 have eA:n.pt=(pathS p a).getD k pt0:=by rw [hk0,path_0,hid,h.sound.node_eq hn]
 obtain ⟨f1,f2,f3⟩:=h.to_facts hn hd
 obtain ⟨c,hc,m,hm,hor⟩:=h.dart_seg hn hd
 have hne2:¬ (c=a∧(m=k∨m=k+1)):=by
  rintro ⟨rfl,g⟩
  rcases hor with ⟨g1,g2,-⟩ | ⟨g1,g2,g3,-⟩
  · exact hne g1
  ·
   have:=hf.loop (hid.trans g3.symm)
   omega
 have ray:=(h.fr_ray ha hk hf hc hm hne2 (v:=n.pt) (u:=toD p d) (hor.imp (fun g=>⟨g.2.2.2.1,g.2.2.2.2⟩) (fun g=>⟨g.2.2.2.1,g.2.2.2.2⟩))).1 eA
 refine ⟨eA,?_⟩
 rw [eA] at ray f3 ⊢
 exact dir_cr nA nB nC f2 n1 n2 n3 f3 ray.1 ray.2 (h.fr_two ha hk hf)
theorem Valid.fr_atC (hkl:k+1=a.via.length) {n:Nd} (hn:n∈p.nodes) (hid:a.dst=n.id) {d:Int} (hd:d∈dartL p.arcs n.id) (hne:d≠-a.id) :
  n.pt=(pathS p a).getD (k+2) pt0∧((cr1 ((pathS p a).getD (k+1) pt0) ((pathS p a).getD k pt0) n.pt=1∧dirLt n.pt (toD p d) ((pathS p a).getD (k+1) pt0)∧¬ dirLt n.pt (toD p d) ((pathS p a).getD k pt0)) ∨
   (cr1 ((pathS p a).getD (k+1) pt0) ((pathS p a).getD k pt0) n.pt=-1∧¬ dirLt n.pt (toD p d) ((pathS p a).getD (k+1) pt0)∧dirLt n.pt (toD p d) ((pathS p a).getD k pt0)) ∨
   (cr1 ((pathS p a).getD (k+1) pt0) ((pathS p a).getD k pt0) n.pt=0∧(dirLt n.pt (toD p d) ((pathS p a).getD (k+1) pt0)↔dirLt n.pt (toD p d) ((pathS p a).getD k pt0)))):=by
 have hl:=pathS_length p a
 obtain ⟨n1,n2,n3⟩:=h.fr_ne ha hk hf
 have nA:=h.pt_near ha (k:=k) (by omega);have nB:=h.pt_near ha (k:=k+1) (by omega);have nC:=h.pt_near ha (k:=k+2) (by omega)
 have eC:n.pt=(pathS p a).getD (k+2) pt0:=by
  rw [show k+2=(pathS p a).length-1 by omega,path_end,hid,h.sound.node_eq hn]
 obtain ⟨f1,f2,f3⟩:=h.to_facts hn hd
 obtain ⟨c,hc,m,hm,hor⟩:=h.dart_seg hn hd
 have hne2:¬ (c=a∧(m=k∨m=k+1)):=by
  rintro ⟨rfl,g⟩
  rcases hor with ⟨g1,g2,g3,-⟩ | ⟨g1,g2,-⟩
  ·
   have:=hf.loop (g3.trans hid.symm)
   omega
  · exact hne g1
 have ray:=(h.fr_ray ha hk hf hc hm hne2 (v:=n.pt) (u:=toD p d) (hor.imp (fun g=>⟨g.2.2.2.1,g.2.2.2.2⟩) (fun g=>⟨g.2.2.2.1,g.2.2.2.2⟩))).2 eC
 refine ⟨eC,?_⟩
 rw [eC] at ray f3 ⊢
 refine dir_cr nC nB nA f2 n2.symm n1.symm n3.symm f3 (by rw [witS_rev];exact ray.1) ray.2 ?_
 have h2:=h.fr_two ha hk hf
 intro e
 apply h2
 have e1:=rmeet_flip ((pathS p a).getD (k+2) pt0) ((pathS p a).getD (k+1) pt0) ((pathS p a).getD (k+1) pt0) ((pathS p a).getD k pt0)
 have e2:=rmeet_flip2 ((pathS p a).getD (k+1) pt0) ((pathS p a).getD (k+2) pt0) ((pathS p a).getD (k+1) pt0) ((pathS p a).getD k pt0)
 have e3:=rmeetS_comm ((pathS p a).getD (k+1) pt0) ((pathS p a).getD (k+2) pt0) ((pathS p a).getD k pt0) ((pathS p a).getD (k+1) pt0)
 unfold rmeetS at e1 e2 e3
 rw [if_pos (near4 nB nC nB nA),if_pos (near4 nC nB nB nA)] at e1
 rw [if_pos (near4 nB nC nA nB),if_pos (near4 nB nC nB nA)] at e2
 rw [if_pos (near4 nB nC nA nB),if_pos (near4 nA nB nB nC)] at e3
 omega

theorem Valid.cut_find (i:Int):findAr (dropV p a.id k).arcs i=(findAr p.arcs i).map (thnG a.id k):=by
 unfold findAr
 rw [h.cut_arcs ha hk,List.find?_map]
 congr 1
 congr 1
 funext b
 show ((thnG a.id k b).id == i)=_
 rw [thnG_id]
theorem Valid.cut_arcD (d:Int):arcD (dropV p a.id k) d=(arcD p d).map (thnG a.id k):=by
 unfold arcD
 split
 · rfl
 · exact h.cut_find ha hk hf _
omit h ha hk hf in
theorem thnG_fr (i:Int) (k:Nat) (b:Ar):(thnG i k b).fr=b.fr∧(thnG i k b).dst=b.dst∧(thnG i k b).left=b.left∧(thnG i k b).right=b.right:=by unfold thnG;split<;>exact ⟨rfl,rfl,rfl,rfl⟩
theorem Valid.cut_start (d:Int):startD (dropV p a.id k) d=startD p d:=by
 unfold startD
 rw [h.cut_arcD ha hk hf]
 cases arcD p d with
 | none=>rfl
 | some b =>
  obtain ⟨e1,e2,-⟩:=thnG_fr a.id k b
  simp only [Option.map_some,e1,e2]
theorem Valid.cut_side (d:Int):sideD (dropV p a.id k) d=sideD p d:=by
 unfold sideD
 rw [h.cut_arcD ha hk hf]
 cases arcD p d with
 | none=>rfl
 | some b =>
  obtain ⟨-,-,e1,e2⟩:=thnG_fr a.id k b
  simp only [Option.map_some,e1,e2]
theorem Valid.cut_darts:dartsD (dropV p a.id k)=dartsD p:=by
 have:=h.cut_ids ha hk
 unfold dartsD
 rw [this]
 congr 2
 have e:∀ l:List Ar,l.map (fun a=>-a.id)=(l.map (·.id)).map (fun x=>-x):=fun l=>by rw [List.map_map];rfl
 rw [e,e,this]
theorem Valid.cut_dartL (n:Int):dartL (dropV p a.id k).arcs n=dartL p.arcs n:=by
 unfold dartL
 rw [h.cut_arcs ha hk,List.flatMap_map]
 have:∀ l:List Ar,(l.flatMap fun b=>(if (thnG a.id k b).fr=n then [(thnG a.id k b).id] else [])++(if (thnG a.id k b).dst=n then [-(thnG a.id k b).id] else []))=l.flatMap fun b=>(if b.fr=n then [b.id] else [])++(if b.dst=n then [-b.id] else []):=by
  intro l
  congr 1
  funext b
  obtain ⟨e1,e2,-⟩:=thnG_fr a.id k b
  rw [e1,e2,thnG_id]
 exact this p.arcs
theorem Valid.cut_to {d:Int} (hd:d∈dartsD p):toD (dropV p a.id k) d=if d=a.id∧k=0 then (pathS p a).getD (k+2) pt0 else if d=-a.id∧k+1=a.via.length then (pathS p a).getD k pt0 else toD p d:=by
 have hq:=h.cut ha hk hf
 have hpos:=(h.id_pos ha).1
 obtain ⟨c,hc,hor⟩:=mem_dartsD.1 hd
 have hcpos:=(h.id_pos hc).1
 have hc':thnG a.id k c∈(dropV p a.id k).arcs:=by rw [h.cut_arcs ha hk];exact List.mem_map_of_mem hc
 have eid:=thnG_id a.id k c
 have hat:=h.cut_at ha hk hc
 have hl:=pathS_length p a
 by_cases e:c=a
 ·
  subst e
  rw [if_pos rfl] at hat
  rw [hat] at hc' eid
  have hvl:(thnA c k).via.length=c.via.length-1:=by
   show (c.via.eraseIdx k).length=_
   rw [List.length_eraseIdx,if_pos hk]
  rcases hor with rfl | rfl
  ·
   have t1:=hq.to_pos hc'
   rw [h.cut_pt ha hk] at t1
   have t2:toD (dropV p c.id k) c.id=_:=t1
   rw [t2,if_neg (show ¬ (c.id=-c.id∧k+1=c.via.length) by omega),h.to_pos ha]
   by_cases k0:k=0
   ·
    subst k0
    rw [if_neg (by omega),if_pos ⟨rfl,rfl⟩]
   · rw [if_pos (by omega),if_neg (by omega)]
  ·
   have t1:=hq.to_neg hc'
   rw [h.cut_pt ha hk,hvl] at t1
   have t2:toD (dropV p c.id k) (-c.id)=_:=t1
   rw [t2,if_neg (show ¬ (-c.id=c.id∧k=0) by omega),h.to_neg ha]
   by_cases kl:k+1=c.via.length
   ·
    rw [if_pos (by omega),if_pos ⟨rfl,kl⟩]
    congr 1;omega
   ·
    rw [if_neg (by omega),if_neg (by omega)]
    congr 1;omega
 ·
  rw [if_neg e] at hat
  rw [hat] at hc' eid
  have hid:c.id≠a.id:=fun g=>e (h.arc_eq hc ha g)
  rcases hor with rfl | rfl
  ·
   rw [if_neg (fun g=>hid g.1),if_neg (by omega),h.to_pos hc]
   exact hq.to_pos hc'
  ·
   rw [if_neg (by omega),if_neg (by omega),h.to_neg hc]
   exact hq.to_neg hc'
theorem Valid.cut_around {n:Nd} (hn:n∈p.nodes):∃ A B,aroundD p n.id=A++B∧aroundD (dropV p a.id k) n.id=B++A:=by
 have hq:=h.cut ha hk hf
 have hnq:n∈(dropV p a.id k).nodes:=hn
 have hpos:=(h.id_pos ha).1
 have hl:=pathS_length p a
 have e1:=h.around_eq hn
 have e2:=hq.around_eq hnq
 have o1:=h.ordOn hn
 have o2:=hq.ordOn hnq
 rw [h.cut_dartL ha hk hf] at e2 o2
 rw [e1,e2]
 have hdm:∀ d∈dartL p.arcs n.id,d∈dartsD p:=fun d hd=>(h.dartL_start hd).1
 have lq:∀ d∈dartL p.arcs n.id,∀ e∈dartL p.arcs n.id,(ltD (dropV p a.id k) n.pt d e=true↔dirLt n.pt (toD (dropV p a.id k) d) (toD (dropV p a.id k) e)):=fun d hd e he =>
  hq.ltD_iff hnq (by rw [h.cut_dartL ha hk hf];exact hd) (by rw [h.cut_dartL ha hk hf];exact he)
 have hto:=fun d (hd:d∈dartL p.arcs n.id)=>h.cut_to ha hk hf (hdm d hd)
 have stay:∀ d∈dartL p.arcs n.id,∀ e∈dartL p.arcs n.id,toD (dropV p a.id k) d=toD p d→toD (dropV p a.id k) e=toD p e→ltD (dropV p a.id k) n.pt d e=ltD p n.pt d e:=fun d hd e he t1 t2=>by
  rw [Bool.eq_iff_iff,lq d hd e he,h.ltD_iff hn hd he,t1,t2]
 have tail:∀ {d0 c:Int} {X Y:Pt},(d0∈dartL p.arcs n.id→toD p d0=X∧toD (dropV p a.id k) d0=Y)→(∀ d∈dartL p.arcs n.id,d≠d0→toD (dropV p a.id k) d=toD p d) →
   (d0∈dartL p.arcs n.id→∀ d∈dartL p.arcs n.id,d≠d0→(c=1∧dirLt n.pt (toD p d) X∧¬ dirLt n.pt (toD p d) Y)∨(c=-1∧¬ dirLt n.pt (toD p d) X∧dirLt n.pt (toD p d) Y)∨(c=0∧(dirLt n.pt (toD p d) X↔dirLt n.pt (toD p d) Y))) →
   ∃ A B,sortB (ltD p n.pt) (dartL p.arcs n.id)=A++B∧sortB (ltD (dropV p a.id k) n.pt) (dartL p.arcs n.id)=B++A:=by
  intro d0 c X Y hX hY hc
  refine rot_one o1 o2 d0 c (fun d hd e he g1 g2=>stay d hd e he (hY d hd g1) (hY e he g2)) (fun h0 d hd hne=>?_)
  obtain ⟨x1,x2⟩:=hX h0
  have q1:=h.ltD_iff hn hd h0
  have q2:=lq d hd d0 h0
  rw [x1] at q1
  rw [x2,hY d hd hne] at q2
  rcases hc h0 d hd hne with ⟨c1,c2,c3⟩ | ⟨c1,c2,c3⟩ | ⟨c1,c2⟩
  · exact .inl ⟨c1,q1.2 c2,by rw [← Bool.not_eq_true,q2];exact c3⟩
  · exact .inr (.inl ⟨c1,by rw [← Bool.not_eq_true,q1];exact c2,q2.2 c3⟩)
  · exact .inr (.inr ⟨c1,by rw [Bool.eq_iff_iff,q1,q2];exact c2⟩)
 by_cases c1:k=0∧a.fr=n.id
 ·
  refine tail (d0:=a.id) (c:=cr1 ((pathS p a).getD (k+1) pt0) ((pathS p a).getD (k+2) pt0) n.pt) (X:=(pathS p a).getD (k+1) pt0) (Y:=(pathS p a).getD (k+2) pt0) (fun h0=>⟨by rw [h.to_pos ha,c1.1],by rw [hto _ h0,if_pos ⟨rfl,c1.1⟩]⟩) (fun d hd hne=>?_) (fun _ d hd hne=>(h.fr_atA ha hk hf c1.1 hn c1.2 hd hne).2)
  rw [hto d hd,if_neg (fun g=>hne g.1),if_neg]
  rintro ⟨rfl,g⟩
  have hs:=(h.dartL_start hd).2
  rw [h.start_neg ha] at hs
  have:=hf.loop (c1.2.trans hs.symm)
  omega
 ·
  by_cases c2:k+1=a.via.length∧a.dst=n.id
  ·
   refine tail (d0:=-a.id) (c:=cr1 ((pathS p a).getD (k+1) pt0) ((pathS p a).getD k pt0) n.pt) (X:=(pathS p a).getD (k+1) pt0) (Y:=(pathS p a).getD k pt0) (fun h0=>⟨by rw [h.to_neg ha,← c2.1],by rw [hto _ h0,if_neg (by omega),if_pos ⟨rfl,c2.1⟩]⟩) (fun d hd hne=>?_) (fun _ d hd hne=>(h.fr_atC ha hk hf c2.1 hn c2.2 hd hne).2)
   rw [hto d hd,if_neg,if_neg (fun g=>hne g.1)]
   rintro ⟨rfl,g⟩
   have hs:=(h.dartL_start hd).2
   rw [h.start_pos ha] at hs
   exact c1 ⟨g,hs⟩
  ·
   refine tail (d0:=0) (c:=0) (X:=n.pt) (Y:=n.pt) (fun h0=>?_) (fun d hd _=>?_) (fun h0=>?_)
   ·
    exfalso
    obtain ⟨x,hx,hor⟩:=mem_dartsD.1 (hdm 0 h0)
    have:=(h.id_pos hx).1
    omega
   ·
    rw [hto d hd,if_neg,if_neg]
    ·
     rintro ⟨rfl,g⟩
     have hs:=(h.dartL_start hd).2
     rw [h.start_neg ha] at hs
     exact c2 ⟨g,hs⟩
    ·
     rintro ⟨rfl,g⟩
     have hs:=(h.dartL_start hd).2
     rw [h.start_pos ha] at hs
     exact c1 ⟨g,hs⟩
   ·
    exfalso
    obtain ⟨x,hx,hor⟩:=mem_dartsD.1 (hdm 0 h0)
    have:=(h.id_pos hx).1
    omega
theorem Valid.cut_next (d:Int):nextD (dropV p a.id k) d=nextD p d:=by
 unfold nextD
 rw [h.cut_arcD ha hk hf,Option.isSome_map]
 split
 ·
  rename_i hs
  have hd:d∈dartsD p:=by
   unfold arcD at hs
   split at hs
   · cases hs
   ·
    rename_i h0
    obtain ⟨b,hb⟩:=Option.isSome_iff_exists.1 hs
    have hm:=findAr_mem hb
    have hid:b.id=absI d:=by
     have:=List.find?_some hb
     simpa using this
    refine mem_dartsD.2 ⟨b,hm,?_⟩
    unfold absI at hid
    split at hid
    · right;omega
    · left;omega
  obtain ⟨n,hn,e1,hm,e2⟩:=h.next_eq hd
  obtain ⟨A,B,r1,r2⟩:=h.cut_around ha hk hf hn
  rw [h.cut_start ha hk hf,← e1,r1,r2]
  have hnd:=h.around_nodup hn
  rw [r1] at hnd hm
  exact prec_rot hnd hm
 · rfl
theorem Valid.cut_cycles:cyclesD (dropV p a.id k)=cyclesD p:=by
 unfold cyclesD
 rw [h.cut_darts ha hk hf,show nextD (dropV p a.id k)=nextD p from funext (h.cut_next ha hk hf)]
end
end Go.Proofs.YtnhdmghgjngcaaaGreat
namespace Go.Proofs.YtnhdmghgjngcaaaGreat
open Go.RowKit
set_option linter.unusedSectionVars false

theorem seg_getD {l:List Pt} {k:Nat} (hk:k+1<l.length):(l.map qt).getD k pt0=qt (l.getD k pt0)∧(l.map qt).getD (k+1) pt0=qt (l.getD (k+1) pt0):=⟨getD_map' _ _ (by omega),getD_map' _ _ hk⟩
theorem segL_map (l:List Pt):segL (l.map qt)=(segL l).map (fun s=>(qt s.1,qt s.2)):=by
 unfold segL
 rw [List.length_map,List.map_map]
 refine List.map_congr_left fun k hk=>?_
 have hk:=List.mem_range.1 hk
 obtain ⟨e1,e2⟩:=seg_getD (l:=l) (k:=k) (by omega)
 simp only [Function.comp]
 rw [e1,e2]
theorem twice_qt (l:List Pt):twiceP (l.map qt)=twiceP l:=by
 rw [← stp_twice,← stp_twice,stp_map]
 refine stp_congr fun k _=>?_
 unfold crossG
 simp only [qt_eq]
 grind
section
variable {p:Pl} (h:Valid p)
include h
theorem Valid.q_pth {d:Int} (hd:d∈dartsD p):pthD (Go.Proofs.YtnhdmghgjngcaaaGreat.qP p) d=(pthD p d).map qt:=by
 obtain ⟨a,ha,hor,e⟩:=h.pth_dart hd
 have hid:=(h.id_pos ha).1
 have ea:absI d=a.id:=by unfold absI;rcases hor with rfl | rfl<;>split<;>omega
 rw [e]
 unfold pthD
 rw [q_find,ea,h.find ha]
 exact h.qt_path ha
theorem Valid.q_seg {X:List Int} (hX:∀ d∈X,d∈dartsD p):segX (Go.Proofs.YtnhdmghgjngcaaaGreat.qP p) X=(segX p X).map (fun s=>(qt s.1,qt s.2)):=by
 unfold segX
 rw [List.map_flatMap]
 have key:∀ l:List Int,(∀ d∈l,d∈dartsD p)→(l.flatMap fun d=>segL (pthD (Go.Proofs.YtnhdmghgjngcaaaGreat.qP p) d))=l.flatMap fun d=>(segL (pthD p d)).map (fun s=>(qt s.1,qt s.2)):=by
  intro l
  induction l with
  | nil=>intro _;rfl
  | cons d l ih =>
   intro hl
   rw [List.flatMap_cons,List.flatMap_cons,ih (fun x hx=>hl x (List.mem_cons_of_mem _ hx)),h.q_pth (hl d List.mem_cons_self),segL_map]
 exact key X hX
theorem Valid.q_area (d:Int):dartT (Go.Proofs.YtnhdmghgjngcaaaGreat.qP p) d=dartT p d:=by
 unfold dartT
 rw [q_arcD]
 cases e:arcD p d with
 | none=>rfl
 | some a =>
  have ha:a∈p.arcs:=by
   unfold arcD at e
   split at e
   · cases e
   · exact findAr_mem e
  simp only [Option.map_some]
  rw [h.qt_path ha,twice_qt]
theorem Valid.q_ar (X:List Int):arX (Go.Proofs.YtnhdmghgjngcaaaGreat.qP p) X=arX p X:=by
 unfold arX
 rw [show dartT (Go.Proofs.YtnhdmghgjngcaaaGreat.qP p)=dartT p from funext h.q_area]
theorem Valid.q_out:outX (Go.Proofs.YtnhdmghgjngcaaaGreat.qP p)=outX p:=by
 unfold outX
 rw [h.q_cycles]
 congr 1
 funext X
 rw [h.q_ar]
theorem Valid.q_res:resX (Go.Proofs.YtnhdmghgjngcaaaGreat.qP p)=resX p:=by
 unfold resX
 rw [h.q_cycles]
 congr 1
 funext X
 rw [h.q_ar]
theorem Valid.q_wn {z:Int→Int} (hz:ClosedC p z) {v:Pt} (hoff:OffZ p z v):wnY (Go.Proofs.YtnhdmghgjngcaaaGreat.qP p) z (qt v)=wnY p z v:=by
 have e1:wnY (Go.Proofs.YtnhdmghgjngcaaaGreat.qP p) z (qt v)=wnS p z (fun a b=>crY v a b+(qd v b-qd v a)):=by
  unfold wnY wnS
  rw [q_arcs,List.map_map]
  refine sumC _ _ _ fun a ha=>?_
  show z a.id*stp (crY (qt v)) (pathS (Go.Proofs.YtnhdmghgjngcaaaGreat.qP p) (qA a))=_
  rw [h.qt_path ha,stp_map]
  by_cases e:z a.id=0
  · rw [e,Int.zero_mul,Int.zero_mul]
  ·
   congr 1
   exact stp_congr fun k hk=>cr_turn (hoff a ha e k hk)
 rw [e1,wnS_add,h.tele hz]
 unfold wnY
 omega
theorem Valid.q_onS {X:List Int} (hX:∀ d∈X,d∈dartsD p) {v:Pt} (nv:near1 v=true):(∀ q∈segX (Go.Proofs.YtnhdmghgjngcaaaGreat.qP p) X,onS q.1 q.2 (qt v)=false)↔(∀ q∈segX p X,onS q.1 q.2 v=false):=by
 rw [h.q_seg hX]
 have key:∀ q∈segX p X,onS (qt q.1) (qt q.2) (qt v)=onS q.1 q.2 v:=fun q hq=>by
  obtain ⟨a,ha,-,k,hk,rfl⟩:=h.seg_mem hX hq
  exact qt_onS (nears3_iff.2 ⟨h.pt_near ha (by omega),h.pt_near ha hk,nv⟩)
 constructor
 ·
  intro g q hq
  rw [← key q hq]
  have h9:=g (qt q.1,qt q.2) (List.mem_map.2 ⟨q,hq,rfl⟩)
  exact h9
 ·
  intro g q hq
  obtain ⟨s,hs,rfl⟩:=List.mem_map.1 hq
  have h9:=key s hs
  rw [g s hs] at h9
  exact h9
theorem Valid.q_enc {X:List Int} (hX:X∈outX p) {v:Pt} (nv:near1 v=true):encS (Go.Proofs.YtnhdmghgjngcaaaGreat.qP p) X (qt v)=encS p X v:=by
 obtain ⟨hc,hp⟩:=mem_outX.1 hX
 have hX':X∈outX (Go.Proofs.YtnhdmghgjngcaaaGreat.qP p):=by rw [h.q_out];exact hX
 obtain ⟨hc',hp'⟩:=mem_outX.1 hX'
 rw [Bool.eq_iff_iff,h.qP.enc_iff hc' hp' (by rw [qt_near];exact nv),h.enc_iff hc hp nv,h.q_onS (h.cyc_nodup hc).2 nv]
 refine and_congr_right fun g=>?_
 rw [h.q_wn (h.chX_closed hc) (h.off_of nv g)]
theorem Valid.q_home {v:Pt} (nv:near1 v=true):homeP (Go.Proofs.YtnhdmghgjngcaaaGreat.qP p) (qt v)=homeP p v:=by
 unfold homeP
 rw [h.q_out]
 exact best_congr fun X hX=>⟨h.q_enc hX nv,h.q_ar X⟩
theorem Valid.q_inn (b:Option (List Int)):innX (Go.Proofs.YtnhdmghgjngcaaaGreat.qP p) b=innX p b:=by
 unfold innX
 rw [h.q_res]
 refine List.filter_congr fun c hc=>?_
 have hcc:=(mem_resX.1 hc).1
 obtain ⟨a,ha,hor,e,-⟩:=h.cycPt_arc hcc
 have hl:=pathS_length p a
 have nv:near1 (cycPt p c)=true:=by rw [e];exact h.pt_near ha (by omega)
 have e2:cycPt (Go.Proofs.YtnhdmghgjngcaaaGreat.qP p) c=qt (cycPt p c):=by
  unfold cycPt
  have hd:=(h.cyc_nodup hcc).2 _ (h.head_in hcc)
  obtain ⟨a',ha',-,ep⟩:=h.pth_dart hd
  rw [h.q_pth hd,getD_map' _ _ (by rw [ep,pathS_length];omega)]
 rw [e2,h.q_home nv]
theorem Valid.q_face (hf:FaceOK p):FaceOK (Go.Proofs.YtnhdmghgjngcaaaGreat.qP p):=by
 have hs:∀ b,faceX (Go.Proofs.YtnhdmghgjngcaaaGreat.qP p) b=faceX p b:=fun b=>by
  unfold faceX
  cases b with
  | none=>rfl
  | some X=>exact q_side _
 refine ⟨fun X hX=>?_,?_,fun b hb c hc d hd=>?_,?_⟩
 · rw [q_side];rw [h.q_out] at hX;exact hf.some X hX
 ·
  rw [h.q_out]
  have e:(fun X:List Int=>sideD (Go.Proofs.YtnhdmghgjngcaaaGreat.qP p) (X.headD 0))=fun X=>sideD p (X.headD 0):=funext fun X=>q_side _
  rw [e]
  exact hf.differ
 ·
  rw [q_side,hs]
  rw [h.q_out] at hb
  unfold cysX at hc
  rw [h.q_inn] at hc
  exact hf.sides b hb c hc d hd
 ·
  rw [h.q_out]
  exact hf.all
end
theorem q_rchk {p:Pl} (hz:rchkS p=0):rchkS (qP p)=0:=by
 unfold rchkS at hz
 by_cases h1:checkS p≠0
 · rw [if_pos h1] at hz;exact absurd hz h1
 rw [if_neg h1] at hz
 have hv:=(check_zero p).1 (by omega)
 split at hz
 ·
  rename_i hf
  unfold rchkS
  rw [if_neg (by rw [(check_zero _).2 hv.qP];simp),if_pos (facB_iff.2 (hv.q_face (facB_iff.1 hf)))]
 · cases hz
end Go.Proofs.YtnhdmghgjngcaaaGreat
namespace Go.Proofs.YtnhdmghgjngcaaaGreat
open Go.RowKit
set_option linter.unusedSectionVars false

theorem sgx_mul {x y:Int} (h:0<y):(0<x↔0<x*y)∧(x<0↔x*y<0):=by
 rcases Int.lt_trichotomy x 0 with g | g | g
 · have:=Int.mul_neg_of_neg_of_pos g h;omega
 · subst g;rw [Int.zero_mul];omega
 · have:=Int.mul_pos g h;omega
theorem sgy_mul {x y:Int} (h:y<0):(0<x↔x*y<0)∧(x<0↔0<x*y):=by
 rcases Int.lt_trichotomy x 0 with g | g | g
 · have:=Int.mul_pos_of_neg_of_neg g h;omega
 · subst g;rw [Int.zero_mul];omega
 · have:=Int.mul_neg_of_pos_of_neg g h;omega
theorem tri_int {a b c α β γ:Int} (ha:a≠0) (hb:b≠0) (hc:c≠0) (e:α*a+β*b+γ*c=0) (h1:0<α+β+γ→¬ (0≤α∧0≤β∧0≤γ)) (h2:α+β+γ<0→¬ (α≤0∧β≤0∧γ≤0)) :
  (if a<0∧0<c∧0 < -β then (1:Int) else if c<0∧0<a∧0<β then -1 else 0) =
  (if a<0∧0<b∧0<γ then 1 else if b<0∧0<a∧0 < -γ then -1 else 0)+(if b<0∧0<c∧0<α then 1 else if c<0∧0<b∧0 < -α then -1 else 0):=by
 have ka:(0<a∧(0<α↔0<α*a)∧(α<0↔α*a<0))∨(a<0∧(0<α↔α*a<0)∧(α<0↔0<α*a)):=by
  rcases Int.lt_or_gt_of_ne ha with g | g
  · exact .inr ⟨g,sgy_mul g⟩
  · exact .inl ⟨g,sgx_mul g⟩
 have kb:(0<b∧(0<β↔0<β*b)∧(β<0↔β*b<0))∨(b<0∧(0<β↔β*b<0)∧(β<0↔0<β*b)):=by
  rcases Int.lt_or_gt_of_ne hb with g | g
  · exact .inr ⟨g,sgy_mul g⟩
  · exact .inl ⟨g,sgx_mul g⟩
 have kc:(0<c∧(0<γ↔0<γ*c)∧(γ<0↔γ*c<0))∨(c<0∧(0<γ↔γ*c<0)∧(γ<0↔0<γ*c)):=by
  rcases Int.lt_or_gt_of_ne hc with g | g
  · exact .inr ⟨g,sgy_mul g⟩
  · exact .inl ⟨g,sgx_mul g⟩
 generalize α*a=p at *
 generalize β*b=q at *
 generalize γ*c=r at *
 rcases ka with ⟨a1,a2,a3⟩ | ⟨a1,a2,a3⟩<;>rcases kb with ⟨b1,b2,b3⟩ | ⟨b1,b2,b3⟩<;>rcases kc with ⟨c1,c2,c3⟩ | ⟨c1,c2,c3⟩
 · rw [if_neg (by omega),if_neg (by omega),if_neg (by omega),if_neg (by omega),if_neg (by omega),if_neg (by omega)];rfl
 ·
  rw [if_neg (show ¬ (a<0∧_) by omega),if_neg (show ¬ (a<0∧_) by omega),if_neg (show ¬ (b<0∧_) by omega),if_neg (show ¬ (b<0∧_) by omega)]
  by_cases g:0<β
  · rw [if_pos (by omega),if_pos (by omega)];rfl
  · rw [if_neg (by omega),if_neg (by omega)];rfl
 ·
  rw [if_neg (show ¬ (a<0∧_) by omega),if_neg (show ¬ (a<0∧_) by omega),if_neg (show ¬ (c<0∧_) by omega),if_neg (show ¬ (c<0∧_) by omega)]
  by_cases g:0<α
  · rw [if_pos (by omega),if_pos (by omega)];rfl
  · rw [if_neg (by omega),if_neg (by omega)];rfl
 ·
  rw [if_neg (show ¬ (a<0∧_) by omega),if_neg (show ¬ (a<0∧_) by omega),if_neg (show ¬ (b<0∧0<c∧_) by omega),if_neg (show ¬ (c<0∧0<b∧_) by omega)]
  by_cases g:0<β
  · rw [if_pos (by omega),if_pos (by omega)];rfl
  · rw [if_neg (by omega),if_neg (by omega)];rfl
 ·
  rw [if_neg (show ¬ (c<0∧_) by omega),if_neg (show ¬ (b<0∧0<a∧_) by omega),if_neg (show ¬ (b<0∧_) by omega),if_neg (show ¬ (c<0∧_) by omega)]
  by_cases g:0<γ
  · rw [if_pos (by omega),if_pos (by omega)];rfl
  · rw [if_neg (by omega),if_neg (by omega)];rfl
 ·
  rw [if_neg (show ¬ (a<0∧0<c∧_) by omega),if_neg (show ¬ (c<0∧0<a∧_) by omega),if_neg (show ¬ (b<0∧0<a∧_) by omega),if_neg (show ¬ (b<0∧0<c∧_) by omega)]
  by_cases g:0<γ
  · rw [if_pos (by omega),if_pos (by omega)];rfl
  · rw [if_neg (by omega),if_neg (by omega)];rfl
 ·
  rw [if_neg (show ¬ (c<0∧_) by omega),if_neg (show ¬ (a<0∧0<b∧_) by omega),if_neg (show ¬ (b<0∧0<a∧_) by omega),if_neg (show ¬ (c<0∧_) by omega)]
  by_cases g:0<α
  · rw [if_pos (by omega),if_pos (by omega)];rfl
  · rw [if_neg (by omega),if_neg (by omega)];rfl
 · rw [if_neg (by omega),if_neg (by omega),if_neg (by omega),if_neg (by omega),if_neg (by omega),if_neg (by omega)];rfl
theorem tri_cr {A B C v:Pt} (na:near1 A=true) (nb:near1 B=true) (nc:near1 C=true) (nv:near1 v=true) (hA:v≠A) (hB:v≠B) (hC:v≠C) (hw:witS A B C v=false):cr1 A C v=cr1 A B v+cr1 B C v:=by
 have out:=tri_out na nb nc nv hw
 have s:tw B C v+tw C A v+tw A B v=tw A B C:=by unfold tw;grind
 have e:tw B C v*(hY A-hY v)+tw C A v*(hY B-hY v)+tw A B v*(hY C-hY v)=0:=by unfold tw hY;grind
 have k:=tri_int (a:=hY A-hY v) (b:=hY B-hY v) (c:=hY C-hY v) (fun g=>hA (hY_inj nv na (by omega))) (fun g=>hB (hY_inj nv nb (by omega))) (fun g=>hC (hY_inj nv nc (by omega))) e (fun g=>out.1 (by omega)) (fun g=>out.2 (by omega))
 have w1:tw B A v=-tw A B v:=tw_swap A B v
 have w2:tw C B v=-tw B C v:=tw_swap B C v
 have w3:tw A C v=-tw C A v:=tw_swap C A v
 unfold cr1
 rw [w1,w2,w3]
 have q:∀ {x y:Pt} {t:Int},(hY x<hY v∧hY v<hY y∧0<t)↔(hY x-hY v<0∧0<hY y-hY v∧0<t):=by intro x y t;omega
 simp only [q]
 exact k
theorem stp_two (f:Pt→Pt→Int) (x y:Pt) (l:List Pt):stp f (x::y::l)=f x y+stp f (y::l):=by
 unfold stp
 have e:(x::y::l).length-1=l.length+1:=by simp
 have e2:(y::l).length-1=l.length:=by simp
 rw [e,e2,List.range_succ_eq_map,List.map_cons,List.sum_cons,List.map_map]
 rfl
theorem stp_cons (f:Pt→Pt→Int) (x:Pt) {l:List Pt} (h:l≠[]):stp f (x::l)=f x (l.headD pt0)+stp f l:=by
 cases l with
 | nil=>exact absurd rfl h
 | cons y l=>exact stp_two f x y l
theorem stp_mid (f:Pt→Pt→Int) (A B C:Pt) (t:List Pt):∀ s:List Pt,stp f (s++A::C::t)=stp f (s++A::B::C::t)-f A B-f B C+f A C
 | []=>by
  rw [List.nil_append,List.nil_append,stp_two,stp_two,stp_two]
  omega
 | x::s=>by
  rw [List.cons_append,List.cons_append,stp_cons f x (by simp),stp_cons f x (by simp),stp_mid f A B C t s]
  have e:(s++A::C::t).headD pt0=(s++A::B::C::t).headD pt0:=by cases s<;>rfl
  rw [e]
  omega
theorem stp_erase (f:Pt→Pt→Int) {l:List Pt} {k:Nat} (hk:k+2<l.length):stp f (l.eraseIdx (k+1))=stp f l-f (l.getD k pt0) (l.getD (k+1) pt0)-f (l.getD (k+1) pt0) (l.getD (k+2) pt0)+f (l.getD k pt0) (l.getD (k+2) pt0):=by
 have g:∀ j (hj:j<l.length),l.getD j pt0=l[j]:=fun j hj=>by
  rw [List.getD_eq_getElem?_getD,List.getElem?_eq_getElem hj];rfl
 have e1:l=l.take k++l[k]::l[k+1]::l[k+2]::l.drop (k+3):=by
  rw [← List.drop_eq_getElem_cons hk,← List.drop_eq_getElem_cons (show k+1<l.length by omega),← List.drop_eq_getElem_cons (show k<l.length by omega),List.take_append_drop]
 have e2:l.eraseIdx (k+1)=l.take k++l[k]::l[k+2]::l.drop (k+3):=by
  rw [List.eraseIdx_eq_take_drop_succ,List.take_succ_eq_append_getElem (show k<l.length by omega),List.drop_eq_getElem_cons hk,List.append_assoc]
  rfl
 rw [g k (by omega),g (k+1) (by omega),g (k+2) hk,e2,stp_mid f l[k] l[k+1] l[k+2] (l.drop (k+3)) (l.take k),← e1]
theorem ltF_off {v u a b:Pt} (ha:a≠v) (hb:b≠v):ltF v u a b=cr1 a b v:=by
 unfold ltF
 rw [if_neg (fun g=>ha g.1),if_neg (fun g=>hb g.1)]
 omega
theorem ltF_fst {v u b:Pt} (hb:b≠v):ltF v u v b=-(if dirLt v u b then 1 else 0):=by
 have c1:cr1 v b v=0:=by unfold cr1;rw [if_neg (by omega),if_neg (by omega)]
 unfold ltF
 rw [c1,if_neg (fun g:b=v∧_=>hb g.1)]
 simp only [true_and]
 omega
theorem ltF_snd {v u a:Pt} (ha:a≠v):ltF v u a v=if dirLt v u a then 1 else 0:=by
 have c1:cr1 a v v=0:=by unfold cr1;rw [if_neg (by omega),if_neg (by omega)]
 unfold ltF
 rw [c1,if_neg (fun g:a=v∧_=>ha g.1)]
 simp only [true_and]
 omega
section
variable {p:Pl} (h:Valid p) {a:Ar} (ha:a∈p.arcs) {k:Nat} (hk:k<a.via.length) (hf:FreeAt p a k)
include h ha hk hf
theorem Valid.cut_wn {f:Pt→Pt→Int} {z:Int→Int} (hA:f ((pathS p a).getD k pt0) ((pathS p a).getD (k+2) pt0)=f ((pathS p a).getD k pt0) ((pathS p a).getD (k+1) pt0)+f ((pathS p a).getD (k+1) pt0) ((pathS p a).getD (k+2) pt0)):wnS (dropV p a.id k) z f=wnS p z f:=by
 have hl:=pathS_length p a
 unfold wnS
 rw [h.cut_arcs ha hk,List.map_map]
 refine sumC _ _ _ fun b hb=>?_
 show z (thnG a.id k b).id*stp f (pathS (dropV p a.id k) (thnG a.id k b))=_
 rw [thnG_id,h.cut_at ha hk hb]
 by_cases e:b=a
 ·
  subst e
  rw [if_pos rfl,path_cut p b hk,stp_erase f (by omega)]
  congr 1
  omega
 ·
  rw [if_neg e]
  rfl
theorem Valid.cut_hz {z:Int→Int} {d:Int} (hd:d∈dartsD p) (ht:toD (dropV p a.id k) d=toD p d):Hz (dropV p a.id k) z d=Hz p z d:=by
 have hl:=pathS_length p a
 obtain ⟨n1,n2,n3⟩:=h.fr_ne ha hk hf
 have nA:=h.pt_near ha (k:=k) (by omega);have nB:=h.pt_near ha (k:=k+1) (by omega);have nC:=h.pt_near ha (k:=k+2) (by omega)
 obtain ⟨n,hn,e1,hm⟩:=h.start_node hd
 unfold Hz ltW
 rw [h.cut_start ha hk hf,ht]
 have ev:nodeAt (dropV p a.id k) (startD p d)=n.pt:=by rw [← e1];exact h.sound.node_eq hn
 have ev2:nodeAt p (startD p d)=n.pt:=by rw [← e1];exact h.sound.node_eq hn
 rw [ev,ev2]
 have nv:=h.node_near hn
 have hnB:n.pt≠(pathS p a).getD (k+1) pt0:=fun e=>by
  rcases h.occ_node hn ha (k:=k+1) (by omega) e.symm with ⟨g,-⟩ | ⟨g,-⟩<;>omega
 refine h.cut_wn ha hk hf ?_
 have hto:=h.cut_to ha hk hf hd
 rw [ht] at hto
 by_cases eA:n.pt=(pathS p a).getD k pt0
 ·
  have hk0:k=0∧a.fr=n.id:=by
   rcases h.occ_node hn ha (k:=k) (by omega) eA.symm with g | ⟨g,-⟩
   · exact g
   · omega
  have hne:d≠a.id:=by
   rintro rfl
   rw [if_pos ⟨rfl,hk0.1⟩,h.to_pos ha,hk0.1] at hto
   rw [hk0.1] at n2
   exact n2 hto
  have q:=(h.fr_atA ha hk hf hk0.1 hn hk0.2 hm hne).2
  rw [eA] at q hnB ⊢
  rw [ltF_fst n3.symm,ltF_fst n1.symm,ltF_off n1.symm n3.symm]
  rcases q with ⟨g1,g2,g3⟩ | ⟨g1,g2,g3⟩ | ⟨g1,g2⟩
  · rw [g1,if_neg g3,if_pos g2];rfl
  · rw [g1,if_pos g3,if_neg g2];rfl
  ·
   rw [g1]
   simp only [g2]
   omega
 ·
  by_cases eC:n.pt=(pathS p a).getD (k+2) pt0
  ·
   have hkl:k+1=a.via.length∧a.dst=n.id:=by
    rcases h.occ_node hn ha (k:=k+2) (by omega) eC.symm with ⟨g,-⟩ | ⟨g,g2⟩
    · omega
    · exact ⟨by omega,g2⟩
   have hne:d≠-a.id:=by
    rintro rfl
    have hpos:=(h.id_pos ha).1
    rw [if_neg (by omega),if_pos ⟨rfl,hkl.1⟩,h.to_neg ha,← hkl.1] at hto
    exact n1 hto.symm
   have q:=(h.fr_atC ha hk hf hkl.1 hn hkl.2 hm hne).2
   rw [eC] at q hnB eA ⊢
   have c3:=cr1_neg ((pathS p a).getD k pt0) ((pathS p a).getD (k+1) pt0) ((pathS p a).getD (k+2) pt0)
   rw [ltF_snd n3,ltF_snd n2,ltF_off n3 n2]
   rcases q with ⟨g1,g2,g3⟩ | ⟨g1,g2,g3⟩ | ⟨g1,g2⟩
   · rw [if_neg g3,if_pos g2];omega
   · rw [if_pos g3,if_neg g2];omega
   ·
    simp only [g2]
    omega
  ·
   have hw:witS ((pathS p a).getD k pt0) ((pathS p a).getD (k+1) pt0) ((pathS p a).getD (k+2) pt0) n.pt=false:=by
    cases g:witS ((pathS p a).getD k pt0) ((pathS p a).getD (k+1) pt0) ((pathS p a).getD (k+2) pt0) n.pt
    · rfl
    ·
     have hb:=hf.nds n hn
     unfold blkS at hb
     rw [tri_eq hf.oA hf.oB hf.oC,g] at hb
     simp only [Bool.and_true,Bool.and_eq_false_imp,decide_eq_true_eq,decide_eq_false_iff_not,ne_eq,Decidable.not_not] at hb
     exact absurd (hb eA hnB) eC
   rw [ltF_off (fun e=>eA e.symm) (fun e=>eC e.symm),ltF_off (fun e=>eA e.symm) (fun e=>hnB e.symm),ltF_off (fun e=>hnB e.symm) (fun e=>eC e.symm)]
   exact tri_cr nA nB nC nv eA hnB eC hw
end
theorem Valid.hz_sign {p:Pl} (h:Valid p) {X:List Int} (hX:X∈cyclesD p) {r d:Int} (hr:r∈X) (hd:d∈dartsD p) (hs:slE p p.arcs.length d=slE p p.arcs.length r):0<arX p X↔Hz p (chX X) d=if d∈X then 1 else 0:=by
 have h2:=(h.cyc_nodup hX).2
 obtain ⟨d0,g1,g2,g3⟩:=h.top_dart (h2 r hr)
 have hsg:=h.cyc_sign hX hr g1 g2 g3
 have hc:=h.hz_class hX hd g1 (hs.trans g2.symm)
 have h0:Hz p (chX X) d0=0:=by
  refine g3 _ (h.chX_closed hX) fun a ha hne=>?_
  exact (h.chX_class hX hr ha hne).1
 rw [h0] at hc
 rw [hsg]
 by_cases e:d0∈X
 ·
  rw [if_pos e] at hc
  constructor
  · intro g;exact absurd e g
  · intro g;rw [g] at hc;omega
 ·
  rw [if_neg e] at hc
  exact ⟨fun _=>by omega,fun _=>e⟩
section
variable {p:Pl} (h:Valid p) {a:Ar} (ha:a∈p.arcs) {k:Nat} (hk:k<a.via.length) (hf:FreeAt p a k)
include h ha hk hf
theorem Valid.cut_dartT {d:Int} (hd:d∈dartsD p) (h1:d≠a.id) (h2:d≠-a.id):dartT (dropV p a.id k) d=dartT p d:=by
 obtain ⟨c,hc,hor⟩:=mem_dartsD.1 hd
 have hne:c≠a:=by rintro rfl;rcases hor with e | e;exact h1 e;exact h2 e
 unfold dartT
 rw [h.cut_arcD ha hk hf]
 have e1:arcD p d=some c:=by rcases hor with rfl | rfl;exact h.arcD_pos hc;exact h.arcD_neg hc
 rw [e1]
 simp only [Option.map_some]
 rw [h.cut_at ha hk hc,if_neg hne]
 rfl
theorem Valid.cut_dartN:dartT (dropV p a.id k) (-a.id)=-dartT (dropV p a.id k) a.id∧dartT p (-a.id)=-dartT p a.id:=by
 have hq:=h.cut ha hk hf
 have hc':thnA a k∈(dropV p a.id k).arcs:=by
  rw [h.cut_arcs ha hk]
  exact List.mem_map.2 ⟨a,ha,by rw [h.cut_at ha hk ha,if_pos rfl]⟩
 have e1:=hq.dartT_pos hc'
 have e2:=h.dartT_pos ha
 refine ⟨?_,by rw [e2.1,e2.2]⟩
 show dartT (dropV p a.id k) (-(thnA a k).id)=-dartT (dropV p a.id k) (thnA a k).id
 rw [e1.1,e1.2]
theorem Valid.cut_ar_both {X:List Int} (hX:X∈cyclesD p) (hb:a.id∈X↔-a.id∈X):arX (dropV p a.id k) X=arX p X:=by
 have hq:=h.cut ha hk hf
 have hX':X∈cyclesD (dropV p a.id k):=by rw [h.cut_cycles ha hk hf];exact hX
 have hd:=(h.cyc_nodup hX).2
 unfold arX
 rw [h.sum_cyc hX (dartT (dropV p a.id k)),h.sum_cyc hX (dartT p)]
 refine sumC _ _ _ fun c hc=>?_
 by_cases e:c=a
 ·
  subst e
  obtain ⟨n1,n2⟩:=h.cut_dartN ha hk hf
  rw [n1,n2]
  by_cases g:c.id∈X
  · rw [if_pos g,if_pos (hb.1 g),if_pos g,if_pos (hb.1 g)];omega
  · rw [if_neg g,if_neg (fun q=>g (hb.2 q)),if_neg g,if_neg (fun q=>g (hb.2 q))]
 ·
  have hid:c.id≠a.id:=fun g=>e (h.arc_eq hc ha g)
  have p1:=(h.id_pos hc).1;have p2:=(h.id_pos ha).1
  rw [h.cut_dartT ha hk hf (mem_dartsD.2 ⟨c,hc,.inl rfl⟩) hid (by omega),h.cut_dartT ha hk hf (mem_dartsD.2 ⟨c,hc,.inr rfl⟩) (by omega) (by omega)]
theorem Valid.cut_sign {X:List Int} (hX:X∈cyclesD p):0<arX (dropV p a.id k) X↔0<arX p X:=by
 have hq:=h.cut ha hk hf
 have hX':X∈cyclesD (dropV p a.id k):=by rw [h.cut_cycles ha hk hf];exact hX
 have hdm:=(h.cyc_nodup hX).2
 have hpos:=(h.id_pos ha).1
 by_cases hb:a.id∈X↔-a.id∈X
 · rw [h.cut_ar_both ha hk hf hX hb]
 have key:∀ {r d:Int},r∈X→d∈dartsD p→(d=r∨d=-r)→¬ (d=a.id∧k=0)→¬ (d=-a.id∧k+1=a.via.length)→(0<arX (dropV p a.id k) X↔0<arX p X):=by
  intro r d hr hd hor g1 g2
  have ht:toD (dropV p a.id k) d=toD p d:=by rw [h.cut_to ha hk hf hd,if_neg g1,if_neg g2]
  have hd':d∈dartsD (dropV p a.id k):=by rw [h.cut_darts ha hk hf];exact hd
  have hr':r∈dartsD (dropV p a.id k):=by rw [h.cut_darts ha hk hf];exact hdm r hr
  have s1:slE p p.arcs.length d=slE p p.arcs.length r:=by
   rcases hor with rfl | rfl
   · rfl
   · exact h.sl_dart (hdm r hr)
  have s2:slE (dropV p a.id k) (dropV p a.id k).arcs.length d=slE (dropV p a.id k) (dropV p a.id k).arcs.length r:=by
   rcases hor with rfl | rfl
   · rfl
   · exact hq.sl_dart hr'
  rw [hq.hz_sign hX' hr hd' s2,h.hz_sign hX hr hd s1,h.cut_hz ha hk hf hd ht]
 have ma:a.id∈dartsD p:=mem_dartsD.2 ⟨a,ha,.inl rfl⟩
 have mb:-a.id∈dartsD p:=mem_dartsD.2 ⟨a,ha,.inr rfl⟩
 have s1:=h.start_pos ha
 have s2:=h.start_neg ha
 by_cases e1:a.id∈X
 ·
  have e2:-a.id∉X:=fun g=>hb ⟨fun _=>g,fun _=>e1⟩
  by_cases k0:k=0
  ·
   by_cases kl:k+1=a.via.length
   ·
    have hne:a.fr≠a.dst:=fun g=>by have:=hf.loop g;omega
    have hn:=h.next_mem ma
    have hnX:=(h.cyc_next hX ma).2 e1
    refine key hnX hn.1 (.inl rfl) (fun g=>?_) (fun g=>e2 (by rw [← g.1];exact hnX))
    rw [g.1,s1,s2] at hn
    exact hne hn.2
   · exact key e1 mb (.inr rfl) (fun g=>by omega) (fun g=>kl g.2)
  · exact key e1 ma (.inl rfl) (fun g=>k0 g.2) (fun g=>by omega)
 ·
  have e2:-a.id∈X:=by
   apply Classical.byContradiction
   intro g
   exact hb ⟨fun q=>absurd q e1,fun q=>absurd q g⟩
  by_cases kl:k+1=a.via.length
  ·
   by_cases k0:k=0
   ·
    have hne:a.fr≠a.dst:=fun g=>by have:=hf.loop g;omega
    have hn:=h.next_mem mb
    have hnX:=(h.cyc_next hX mb).2 e2
    refine key hnX hn.1 (.inl rfl) (fun g=>e1 (by rw [← g.1];exact hnX)) (fun g=>?_)
    rw [g.1,Int.neg_neg,s1,s2] at hn
    exact hne hn.2.symm
   · exact key e2 ma (.inr (by omega)) (fun g=>k0 g.2) (fun g=>by omega)
  · exact key e2 mb (.inl rfl) (fun g=>by omega) (fun g=>kl g.2)
theorem Valid.cut_out:outX (dropV p a.id k)=outX p:=by
 unfold outX
 rw [h.cut_cycles ha hk hf]
 refine List.filter_congr fun X hX=>?_
 have:=h.cut_sign ha hk hf hX
 simp only [this]
theorem Valid.cut_res:resX (dropV p a.id k)=resX p:=by
 unfold resX
 rw [h.cut_cycles ha hk hf]
 refine List.filter_congr fun X hX=>?_
 have:=h.cut_sign ha hk hf hX
 simp only [this]
end
end Go.Proofs.YtnhdmghgjngcaaaGreat
