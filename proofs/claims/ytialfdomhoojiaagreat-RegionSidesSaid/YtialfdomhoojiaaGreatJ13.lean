import Derived.Test.YtialfdomhoojiaaGreatJ12
import Derived.Test.YtialfdomhoojiaaGreatJ03
import Derived.Test.YtialfdomhoojiaaGreatJ09
set_option linter.unusedSimpArgs false
set_option linter.unusedVariables false
namespace Go.Proofs.YtialfdomhoojiaaGreat
open Go.RowKit
set_option linter.unusedSectionVars false

theorem onP_hY {a b u:Pt} (hab:hY a<hY b) (h:onP a b u):hY a≤hY u∧hY u≤hY b:=by
 obtain ⟨h0,x1,x2,y1,y2⟩:=h
 have k1:(hY u-hY a)*(b.y-a.y)=(u.y-a.y)*(hY b-hY a):=by unfold tw at h0;unfold hY;grind
 have k2:(hY u-hY a)*(b.x-a.x)=(u.x-a.x)*(hY b-hY a):=by unfold tw at h0;unfold hY;grind
 have hN:0<hY b-hY a:=by omega
 have hd:hY b-hY a=8388608*(b.y-a.y)+(b.x-a.x):=by unfold hY;omega
 have hu:hY u-hY a=8388608*(u.y-a.y)+(u.x-a.x):=by unfold hY;omega
 have hv:hY b-hY u=8388608*(b.y-u.y)+(b.x-u.x):=by unfold hY;omega
 generalize hY b-hY a=N at *
 have s:∀ {x y:Int},0<x→0<y→0<x*y:=fun h1 h2=>Int.mul_pos h1 h2
 have s2:∀ {x y:Int},x<0→0<y→x*y<0:=fun h1 h2=>Int.mul_neg_of_neg_of_pos h1 h2
 have s3:∀ {x y:Int},0<x→y<0→x*y<0:=fun h1 h2=>Int.mul_neg_of_pos_of_neg h1 h2
 have s4:∀ {x y:Int},x<0→y<0→0<x*y:=fun h1 h2=>Int.mul_pos_of_neg_of_neg h1 h2
 have nn:∀ {x y:Int},0≤x→0≤y→0≤x*y:=fun h1 h2=>Int.mul_nonneg h1 h2
 have np:∀ {x y:Int},x≤0→0≤y→x*y≤0:=fun h1 h2=>Int.mul_nonpos_of_nonpos_of_nonneg h1 h2
 have k1':(hY b-hY u)*(b.y-a.y)=(b.y-u.y)*N:=by
  have:(hY b-hY u)+(hY u-hY a)=N:=by omega
  have e:(hY b-hY u)*(b.y-a.y)=N*(b.y-a.y)-(hY u-hY a)*(b.y-a.y):=by rw [← this];grind
  rw [e,k1];grind
 have k2':(hY b-hY u)*(b.x-a.x)=(b.x-u.x)*N:=by
  have:(hY b-hY u)+(hY u-hY a)=N:=by omega
  have e:(hY b-hY u)*(b.x-a.x)=N*(b.x-a.x)-(hY u-hY a)*(b.x-a.x):=by rw [← this];grind
  rw [e,k2];grind
 have key:∀ {m d q:Int},m*d=q*N→(0<d→0≤q)→(d<0→q≤0)→d≠0→0≤m:=by
  intro m d q e h1 h2 hd0
  apply Classical.byContradiction
  intro hm
  rcases Int.lt_or_gt_of_ne hd0 with g | g
  ·
   have:=s4 (show m<0 by omega) g
   have:=np (h2 g) (show 0≤N by omega)
   omega
  ·
   have:=s2 (show m<0 by omega) g
   have:=nn (h1 g) (show 0≤N by omega)
   omega
 by_cases hy:b.y-a.y=0
 ·
  have hx:b.x-a.x≠0:=by omega
  have m1:=key k2 (by omega) (by omega) hx
  have m2:=key k2' (by omega) (by omega) hx
  omega
 ·
  have m1:=key k1 (by omega) (by omega) hy
  have m2:=key k1' (by omega) (by omega) hy
  omega
theorem line3 {u v a b s:Pt} (hne:u≠v) (ha:tw u v a=0) (hb:tw u v b=0) (hs:tw u v s=0):tw a b s=0:=by
 have h0:=Pt.sub_ne hne
 unfold tw at *
 exact parallel h0 (by grind) (by grind)
theorem up_of {a b:Pt} (na:near1 a=true) (nb:near1 b=true) (hne:a≠b):∃ s t,((a=s∧b=t)∨(a=t∧b=s))∧hY s<hY t∧near1 s=true∧near1 t=true:=by
 rcases Int.lt_trichotomy (hY a) (hY b) with c | c | c
 · exact ⟨a,b,.inl ⟨rfl,rfl⟩,c,na,nb⟩
 · exact absurd (hY_inj na nb c) hne
 · exact ⟨b,a,.inr ⟨rfl,rfl⟩,c,nb,na⟩
theorem onP_flip {a b v:Pt} (h:onP a b v):onP b a v:=by
 obtain ⟨h0,h1⟩:=h
 refine ⟨?_,by rw [Int.min_comm,Int.max_comm b.x,Int.min_comm b.y,Int.max_comm b.y];exact h1⟩
 have:tw b a v=-tw a b v:=by unfold tw;grind
 omega
theorem two_common {a b c d u v:Pt} (na:near1 a=true) (nb:near1 b=true) (nc:near1 c=true) (nd:near1 d=true) (nu:near1 u=true) (nv:near1 v=true) (hab:a≠b) (hcd:c≠d) (huv:u≠v)
  (h1:onP a b u) (h2:onP a b v) (h3:onP c d u) (h4:onP c d v):rmeetN a b c d=2:=by
 obtain ⟨s,t,e1,l1,-,-⟩:=up_of na nb hab
 obtain ⟨x,y,e2,l2,-,-⟩:=up_of nc nd hcd
 have hh:hY u≠hY v:=fun e=>huv (hY_inj nu nv e)
 have h1':onP s t u:=by rcases e1 with ⟨rfl,rfl⟩ | ⟨rfl,rfl⟩;exact h1;exact onP_flip h1
 have h2':onP s t v:=by rcases e1 with ⟨rfl,rfl⟩ | ⟨rfl,rfl⟩;exact h2;exact onP_flip h2
 have h3':onP x y u:=by rcases e2 with ⟨rfl,rfl⟩ | ⟨rfl,rfl⟩;exact h3;exact onP_flip h3
 have h4':onP x y v:=by rcases e2 with ⟨rfl,rfl⟩ | ⟨rfl,rfl⟩;exact h4;exact onP_flip h4
 have q1:=onP_hY l1 h1';have q2:=onP_hY l1 h2';have q3:=onP_hY l2 h3';have q4:=onP_hY l2 h4'
 have hst:s≠t:=fun e=>by rw [e] at l1;omega
 have hxy:x≠y:=fun e=>by rw [e] at l2;omega
 obtain ⟨p1,p2⟩:=tw_line hst h1'.1 h2'.1
 obtain ⟨p3,p4⟩:=tw_line hxy h3'.1 h4'.1
 exact over_two e1 e2 l1 l2 (line3 huv p1 p2 p3) (line3 huv p1 p2 p4) (by omega) (by omega)
theorem meet_common {a b c d v:Pt} (na:near1 a=true) (nb:near1 b=true) (nc:near1 c=true) (nd:near1 d=true) (nv:near1 v=true) (hab:a≠b) (hcd:c≠d) (h1:onP a b v) (h2:onP c d v):rmeetN a b c d≠0:=by
 intro h0
 have lin:∀ {a b c d:Pt},near1 c=true→near1 d=true→c≠d→tw a b v=0→onP c d v→(tw a b c≤0∧0≤tw a b d)∨(0≤tw a b c∧tw a b d≤0):=by
  intro a b c d nc nd hcd e ho
  have go:∀ {c d:Pt},hY c<hY d→onP c d v→(tw a b c≤0∧0≤tw a b d)∨(0≤tw a b c∧tw a b d≤0):=by
   intro c d hlt ho
   have hb:=onP_hY hlt ho
   have k:tw a b c*(hY d-hY v)+tw a b d*(hY v-hY c)=0:=by
    have:=ho.1
    have k0:tw a b c*(hY d-hY v)+tw a b d*(hY v-hY c)=tw a b v*(hY d-hY c)-(hY b-hY a)*tw c d v:=by unfold tw hY;grind
    rw [k0,e,this];simp
   have p1:∀ {x y:Int},0<x→0≤y→0≤x*y:=fun h1 h2=>Int.mul_nonneg (by omega) h2
   have p2:∀ {x y:Int},x<0→0≤y→x*y≤0:=fun h1 h2=>Int.mul_nonpos_of_nonpos_of_nonneg (by omega) h2
   have p3:∀ {x y:Int},0<x→0<y→0<x*y:=fun h1 h2=>Int.mul_pos h1 h2
   have p4:∀ {x y:Int},x<0→0<y→x*y<0:=fun h1 h2=>Int.mul_neg_of_neg_of_pos h1 h2
   generalize tw a b c=u1 at *
   generalize tw a b d=u2 at *
   have hA:0≤hY d-hY v:=by omega
   have hB:0≤hY v-hY c:=by omega
   have hAB:0<hY d-hY v∨0<hY v-hY c:=by omega
   generalize hY d-hY v=A at *
   generalize hY v-hY c=B at *
   clear hb ho e hlt
   rcases Int.lt_trichotomy u1 0 with g1 | g1 | g1
   ·
    rcases Int.lt_trichotomy u2 0 with g2 | g2 | g2
    ·
     exfalso
     have:=p2 g1 hA;have:=p2 g2 hB
     rcases hAB with q | q
     · have:=p4 g1 q;omega
     · have:=p4 g2 q;omega
    · omega
    · omega
   · omega
   ·
    rcases Int.lt_trichotomy u2 0 with g2 | g2 | g2
    · omega
    · omega
    ·
     exfalso
     have:=p1 g1 hA;have:=p1 g2 hB
     rcases hAB with q | q
     · have:=p3 g1 q;omega
     · have:=p3 g2 q;omega
  rcases Int.lt_trichotomy (hY c) (hY d) with g | g | g
  · exact go g ho
  · exact absurd (hY_inj nc nd g) hcd
  · have:=go g (onP_flip ho);omega
 have l1:=lin (a:=a) (b:=b) nc nd hcd h1.1 h2
 have l2:=lin (a:=c) (b:=d) na nb hab h2.1 h1
 have e:=tw_d a b c d
 by_cases hp:tw a b d-tw a b c=0
 ·
  have z1:tw a b c=0∧tw a b d=0:=by omega
  obtain ⟨z3,z4⟩:=tw_line hab z1.1 z1.2
  unfold rmeetN at h0
  rw [if_neg (fun e=>hab e.1),if_pos (by rw [cross_d];omega),if_pos ⟨z1.1,z1.2,z3,z4⟩,sharedS_def] at h0
  have b1:=(box_lex a b v hab h1.1).1 ⟨h1.2.1,h1.2.2.1,h1.2.2.2.1,h1.2.2.2.2⟩
  have b2:=(box_lex c d v hcd h2.1).1 ⟨h2.2.1,h2.2.2.1,h2.2.2.2.1,h2.2.2.2.2⟩
  have g1:bef v (hi (lo a b) (lo c d))=false:=hi_le b1.1 b2.1
  have g2:bef (lo (hi a b) (hi c d)) v=false:=lo_ge b1.2 b2.2
  split at h0
  · cases h0
  ·
   rename_i hne
   split at h0
   · cases h0
   ·
    rename_i hb
    rw [Bool.not_eq_true] at hb
    apply hne
    rw [← Bool.not_eq_true,bef_iff] at g1 g2 hb
    rw [Pt.ext_iff']
    omega
 ·
  have NM:=no_meet hab h0 hp
  omega
theorem lvl_cr1 {D:Int} (hD:0<D) {a b v:Pt} (na:near1 a=true) (nb:near1 b=true) (nv:near1 v=true) (hne:a≠b) (hd:hY b-hY a∣D) (hav:a≠v) (hbv:b≠v) (hoff:¬ onP a b v) :
  (if 2*D*v.x<xE D a b (2*hY v) then sgH (2*hY v) a b else 0)=cr1 a b v:=by
 have key:∀ {a b:Pt},hY a<hY b→hY b-hY a∣D→hY a≠hY v→hY b≠hY v→(if 2*D*v.x<xE D a b (2*hY v) then sgH (2*hY v) a b else 0)=cr1 a b v:=by
  intro a b hab hd ha hb
  have hx:=xE_pt hD (v:=v) hab hd
  simp only [hx]
  unfold cr1 sgH
  rw [if_neg (show ¬ (hY b<hY v∧hY v<hY a∧0<tw b a v) by omega)]
  by_cases c:0<tw a b v
  ·
   rw [if_pos c]
   by_cases c1:hY a<hY v
   ·
    by_cases c2:hY v<hY b
    · rw [if_pos (by omega),if_neg (by omega),if_pos ⟨c1,c2,c⟩];rfl
    · rw [if_neg (by omega),if_neg (by omega),if_neg (fun e=>c2 e.2.1)];rfl
   · rw [if_pos (by omega),if_pos (by omega),if_neg (fun e=>c1 e.1)];rfl
  · rw [if_neg c,if_neg (fun e=>c e.2.2)]
 have ha:hY a≠hY v:=fun e=>hav (hY_inj na nv e)
 have hb:hY b≠hY v:=fun e=>hbv (hY_inj nb nv e)
 rcases Int.lt_trichotomy (hY a) (hY b) with c | c | c
 · exact key c hd ha hb
 · exact absurd (hY_inj na nb c) hne
 ·
  have:=key c (by rw [show hY a-hY b=-(hY b-hY a) by omega];exact Int.neg_dvd.2 hd) hb ha
  rw [xE_swap,cr1_neg] at this
  have e2:sgH (2*hY v) b a=-sgH (2*hY v) a b:=by unfold sgH;omega
  rw [e2] at this
  split at this<;>rename_i g<;>first | (rw [if_pos g];omega) | (rw [if_neg g];omega)
section
variable {p:Pl} (h:Valid p)
include h
theorem Valid.wnY_cr1 {z:Int→Int} (hz:ClosedC p z) {v:Pt} (nv:near1 v=true) (hoff:OffZ p z v):wnY p z v=wnS p z (fun a b=>cr1 a b v):=by
 obtain ⟨D,hD,hd⟩:=h.sep_D
 rw [h.wnY_bey hz hD hd nv hoff]
 refine (items_sum p z D (2*hY v) (fun x s=>if 2*D*v.x<x then s else 0) (fun x c s=>by split<;>simp)).trans ?_
 exact wnS_congrZ fun a ha hza k hk=>lvl_cr1 hD (h.pt_near ha (k:=k) (by omega)) (h.pt_near ha hk) nv (h.distinct ha hk).1 (hd a ha k hk) (h.off_ends hoff ha hza (k:=k) (by omega)) (h.off_ends hoff ha hza hk) (hoff a ha hza k hk)
theorem Valid.wnY_rt {z:Int→Int} (hz:ClosedC p z) {v:Pt} (nv:near1 v=true) (hoff:OffZ p z v) (u:Pt):rtW p z v u=wnY p z v:=by
 rw [h.wnY_cr1 hz nv hoff]
 unfold rtW
 refine wnS_congrZ fun a ha hza k hk=>?_
 have e1:=h.off_ends hoff ha hza (k:=k) (by omega)
 have e2:=h.off_ends hoff ha hza hk
 unfold rtF
 rw [if_neg (fun e=>e1 e.1),if_neg (fun e=>e2 e.1)]
 omega
theorem Valid.wnY_arc {z:Int→Int} (hz:ClosedC p z) {a:Ar} (ha:a∈p.arcs) {k:Nat} (hk:k<(pathS p a).length) (hoff:OffZ p z ((pathS p a).getD k pt0)) :
  wnY p z ((pathS p a).getD k pt0)=Hz p z a.id∧Hz p z (-a.id)=Hz p z a.id:=by
 have hl:=pathS_length p a
 have nv:=h.pt_near ha hk
 have hp:=h.Hz_pos hz ha
 have h0:z a.id=0:=Classical.byContradiction fun hne=>h.off_ends hoff ha hne hk rfl
 rw [h0] at hp
 refine ⟨?_,by omega⟩
 by_cases h1:k+1<(pathS p a).length
 ·
  have:=(h.side_all hz ha h1).1
  rw [h.wnY_rt hz nv hoff] at this
  omega
 ·
  obtain ⟨m,rfl⟩:∃ m,k=m+1:=⟨k-1,by omega⟩
  have:=(h.side_all hz ha (m:=m) hk).2
  rw [h.wnY_rt hz nv hoff] at this
  omega
theorem Valid.two_arcs {a c:Ar} (ha:a∈p.arcs) (hc:c∈p.arcs) (hne:a≠c) {k m:Nat} (hk:k+1<(pathS p a).length) (hm:m+1<(pathS p c).length) {v:Pt} (nv:near1 v=true)
  (h1:onP ((pathS p a).getD k pt0) ((pathS p a).getD (k+1) pt0) v) (h2:onP ((pathS p c).getD m pt0) ((pathS p c).getD (m+1) pt0) v):∃ n∈p.nodes,n.pt=v∧(a.fr=n.id∨a.dst=n.id)∧(c.fr=n.id∨c.dst=n.id):=by
 have go:∀ {a c:Ar} {k m:Nat},a∈p.arcs→c∈p.arcs→a≠c→k+1<(pathS p a).length→m+1<(pathS p c).length→onP ((pathS p a).getD k pt0) ((pathS p a).getD (k+1) pt0) v→onP ((pathS p c).getD m pt0) ((pathS p c).getD (m+1) pt0) v →
   joinedS p (segK p a k) (segK p c m)=true→∃ n∈p.nodes,n.pt=v∧(a.fr=n.id∨a.dst=n.id)∧(c.fr=n.id∨c.dst=n.id):=by
  intro a c k m ha hc hne hk hm h1 h2 hj
  have n1:=h.pt_near ha (k:=k) (by omega);have n2:=h.pt_near ha hk
  have n3:=h.pt_near hc (k:=m) (by omega);have n4:=h.pt_near hc hm
  have d1:=(h.distinct ha hk).1
  have d2:=(h.distinct hc hm).1
  have hm0:=meet_common n1 n2 n3 n4 nv d1 d2 h1 h2
  unfold joinedS at hj
  split at hj
  ·
   obtain ⟨x,hx,hat⟩:=List.any_eq_true.1 hj
   unfold meetAt segK at hat
   simp only [Bool.and_eq_true] at hat
   obtain ⟨⟨⟨e1,e2⟩,o1⟩,o2⟩:=hat
   have nx:=h.node_near hx
   rw [← onS_eq] at o1 o2
   have o1:=(onS_onP n1 n2 nx).1 o1
   have o2:=(onS_onP n3 n4 nx).1 o2
   have ends:∀ {b:Ar},endsS b x.id=true→b.fr=x.id∨b.dst=x.id:=fun he=>by
    unfold endsS at he
    simpa using he
   refine ⟨x,hx,?_,ends e1,ends e2⟩
   apply Classical.byContradiction
   intro hxv
   have r1:=two_common n1 n2 n3 n4 nx nv d1 d2 hxv o1 h1 o2 h2
   have r2:=two_common n3 n4 n1 n2 nx nv d2 d1 hxv o2 h2 o1 h1
   exact h.seg_one ha hc hk hm (fun e=>hne e.1) ⟨r1,r2⟩
  ·
   rw [beq_iff_eq] at hj
   unfold rmeetS segK at hj
   rw [if_pos (near4 n1 n2 n3 n4)] at hj
   exact absurd hj hm0
 have hpw:=h.segs.2.2
 obtain ⟨i,hi,rfl⟩:=List.mem_iff_getElem.1 ha
 obtain ⟨j,hj,rfl⟩:=List.mem_iff_getElem.1 hc
 rw [List.pairwise_iff_getElem] at hpw
 rcases Nat.lt_trichotomy i j with hij | hij | hij
 · exact go ha hc hne hk hm h1 h2 (hpw i j hi hj hij k hk m hm)
 · subst hij;exact absurd rfl hne
 ·
  obtain ⟨n,h1,h2,h3,h4⟩:=go hc ha (fun e=>hne e.symm) hm hk h2 h1 (hpw j i hj hi hij m hm k hk)
  exact ⟨n,h1,h2,h4,h3⟩
theorem Valid.apart_off {X:List Int} (hX:X∈cyclesD p) {r:Int} (hr:r∈X) {a:Ar} (ha:a∈p.arcs) (hs:slE p p.arcs.length a.id≠slE p p.arcs.length r) {k:Nat} (hk:k<(pathS p a).length) :
  ∀ q∈segX p X,onS q.1 q.2 ((pathS p a).getD k pt0)=false:=by
 intro q hq
 obtain ⟨c,hc,hcm,m,hm,rfl⟩:=h.seg_mem (h.cyc_nodup hX).2 hq
 rw [← Bool.not_eq_true]
 intro ho
 have hl:=pathS_length p a
 have hcs:slE p p.arcs.length c.id=slE p p.arcs.length r:=by
  have hmc:c.id∈dartsD p:=mem_dartsD.2 ⟨c,hc,.inl rfl⟩
  rcases hcm with g | g
  · exact h.cyc_class hX g hr
  · rw [← h.sl_dart hmc];exact h.cyc_class hX g hr
 have hne:a≠c:=by rintro rfl;exact hs hcs
 obtain ⟨j,hj,hon⟩:∃ j,j+1<(pathS p a).length∧onP ((pathS p a).getD j pt0) ((pathS p a).getD (j+1) pt0) ((pathS p a).getD k pt0):=by
  by_cases h1:k+1<(pathS p a).length
  · exact ⟨k,h1,tw_aba _ _,by omega⟩
  ·
   obtain ⟨j,rfl⟩:∃ j,k=j+1:=⟨k-1,by omega⟩
   exact ⟨j,hk,tw_abb _ _,by omega⟩
 obtain ⟨n,hn,-,ea,ec⟩:=h.two_arcs ha hc hne hj hm (h.pt_near ha hk) hon ((onS_onP (h.pt_near hc (by omega)) (h.pt_near hc hm) (h.pt_near ha hk)).1 ho)
 have at_n:∀ {a:Ar},a∈p.arcs→(a.fr=n.id∨a.dst=n.id)→∃ d∈aroundD p n.id,slE p p.arcs.length d=slE p p.arcs.length a.id:=by
  intro a ha hor
  have hma:a.id∈dartsD p:=mem_dartsD.2 ⟨a,ha,.inl rfl⟩
  rcases hor with e | e
  · exact ⟨a.id,(h.around_perm hn).symm.subset (mem_dartL.2 ⟨a,ha,.inl ⟨rfl,e⟩⟩),rfl⟩
  · exact ⟨-a.id,(h.around_perm hn).symm.subset (mem_dartL.2 ⟨a,ha,.inr ⟨rfl,e⟩⟩),h.sl_dart hma⟩
 obtain ⟨d1,m1,q1⟩:=at_n ha ea
 obtain ⟨d2,m2,q2⟩:=at_n hc ec
 exact hs (by rw [← q1,h.sl_node hn m1 m2,q2,hcs])
end
end Go.Proofs.YtialfdomhoojiaaGreat
namespace Go.Proofs.YtialfdomhoojiaaGreat
open Go.RowKit
set_option linter.unusedSectionVars false

def outX (p:Pl):List (List Int):=(cyclesD p).filter (fun X=>decide (0<arX p X))
def resX (p:Pl):List (List Int):=(cyclesD p).filter (fun X=>!decide (0<arX p X))
def homeP (p:Pl) (v:Pt):Option (List Int):=bestC (fun X=>encS p X v) (arX p) (outX p)
theorem mem_outX {p:Pl} {X:List Int}:X∈outX p↔X∈cyclesD p∧0<arX p X:=by unfold outX;rw [List.mem_filter,decide_eq_true_eq]
theorem mem_resX {p:Pl} {X:List Int}:X∈resX p↔X∈cyclesD p∧¬ 0<arX p X:=by unfold resX;rw [List.mem_filter];simp
section
variable {p:Pl} (h:Valid p)
include h
theorem Valid.enc_own {X:List Int} (hX:X∈outX p) {r:Int} (hr:r∈X) {a:Ar} (ha:a∈p.arcs) (hs:slE p p.arcs.length a.id=slE p p.arcs.length r) {k:Nat} (hk:k<(pathS p a).length):encS p X ((pathS p a).getD k pt0)=false:=by
 rw [mem_outX] at hX
 have nv:=h.pt_near ha hk
 have hma:a.id∈dartsD p:=mem_dartsD.2 ⟨a,ha,.inl rfl⟩
 have hl:=pathS_length p a
 rw [← Bool.not_eq_true]
 intro he
 obtain ⟨g1,g2⟩:=(h.enc_iff hX.1 hX.2 nv).1 he
 have hoff:=h.off_of nv g1
 obtain ⟨w1,w2⟩:=h.wnY_arc (h.chX_closed hX.1) ha hk hoff
 rw [h.outer_hz hX.1 hX.2 hr hma hs] at w1
 rw [w1] at g2
 have hin:a.id∈X:=Classical.byContradiction fun c=>by rw [if_neg c] at g2;cases g2
 obtain ⟨j,hj,hon⟩:∃ j,j+1<(pathS p a).length∧onP ((pathS p a).getD j pt0) ((pathS p a).getD (j+1) pt0) ((pathS p a).getD k pt0):=by
  by_cases h1:k+1<(pathS p a).length
  · exact ⟨k,h1,tw_aba _ _,by omega⟩
  ·
   obtain ⟨j,rfl⟩:∃ j,k=j+1:=⟨k-1,by omega⟩
   exact ⟨j,hk,tw_abb _ _,by omega⟩
 have:=g1 _ (h.mem_seg ha (.inl hin) hj)
 rw [(onS_onP (h.pt_near ha (by omega)) (h.pt_near ha hj) nv).2 hon] at this
 cases this
theorem Valid.enc_part {X:List Int} (hX:X∈outX p) {a b:Ar} (ha:a∈p.arcs) (hb:b∈p.arcs) (hs:slE p p.arcs.length a.id=slE p p.arcs.length b.id) {k m:Nat} (hk:k<(pathS p a).length) (hm:m<(pathS p b).length) :
  encS p X ((pathS p a).getD k pt0)=encS p X ((pathS p b).getD m pt0):=by
 have hX':=mem_outX.1 hX
 obtain ⟨r,-,-,-,hr⟩:=h.cyc_form hX'.1
 by_cases hc:slE p p.arcs.length a.id=slE p p.arcs.length r
 · rw [h.enc_own hX hr ha hc hk,h.enc_own hX hr hb (by rw [← hs];exact hc) hm]
 ·
  have hma:a.id∈dartsD p:=mem_dartsD.2 ⟨a,ha,.inl rfl⟩
  have hmb:b.id∈dartsD p:=mem_dartsD.2 ⟨b,hb,.inl rfl⟩
  have o1:=h.apart_off hX'.1 hr ha hc hk
  have o2:=h.apart_off hX'.1 hr hb (by rw [← hs];exact hc) hm
  have w1:=(h.wnY_arc (h.chX_closed hX'.1) ha hk (h.off_of (h.pt_near ha hk) o1)).1
  have w2:=(h.wnY_arc (h.chX_closed hX'.1) hb hm (h.off_of (h.pt_near hb hm) o2)).1
  have e:=(h.outer_far hX'.1 hX'.2 hr hma hc).2 _ hmb hs.symm
  rw [Bool.eq_iff_iff,h.enc_iff hX'.1 hX'.2 (h.pt_near ha hk),h.enc_iff hX'.1 hX'.2 (h.pt_near hb hm),w1,w2,e]
  exact ⟨fun g=>⟨o2,g.2⟩,fun g=>⟨o1,g.2⟩⟩
theorem Valid.home_part {a b:Ar} (ha:a∈p.arcs) (hb:b∈p.arcs) (hs:slE p p.arcs.length a.id=slE p p.arcs.length b.id) {k m:Nat} (hk:k<(pathS p a).length) (hm:m<(pathS p b).length) :
  homeP p ((pathS p a).getD k pt0)=homeP p ((pathS p b).getD m pt0):=by
 unfold homeP bestC
 have:∀ (l:List (List Int)) (o:Option (List Int)),(∀ X∈l,X∈outX p)→l.foldl (bestStep (fun X=>encS p X ((pathS p a).getD k pt0)) (arX p)) o=l.foldl (bestStep (fun X=>encS p X ((pathS p b).getD m pt0)) (arX p)) o:=by
  intro l
  induction l with
  | nil=>intro o _;rfl
  | cons X l ih =>
   intro o hl
   rw [List.foldl_cons,List.foldl_cons,ih _ (fun Y hY=>hl Y (List.mem_cons_of_mem _ hY))]
   congr 1
   have e:=h.enc_part (hl X List.mem_cons_self) ha hb hs hk hm
   simp only [bestStep,e]
 exact this _ _ fun X hX=>hX
end
def cycPt (p:Pl) (c:List Int):Pt:=(pthD p (c.headD 0)).getD 0 pt0
def innX (p:Pl) (b:Option (List Int)):List (List Int):=(resX p).filter (fun c=>decide (homeP p (cycPt p c)=b))
def aloX (p:Pl) (b:Option (List Int)):List Int:=(p.nodes.filter (fun n=>decide (degS p.arcs n.id=0∧homeP p n.pt=b))).map (·.id)
def faceX (p:Pl) (b:Option (List Int)):Int:=match b with
 | none=>0
 | some X=>sideD p (X.headD 0)
def cysX (p:Pl) (b:Option (List Int)):List (List Int):=b.getD []::innX p b
structure FaceOK (p:Pl):Prop where
 some:∀ X∈outX p,sideD p (X.headD 0)≠0
 differ:((outX p).map (fun X=>sideD p (X.headD 0))).Nodup
 sides:∀ b,(b=none∨∃ X∈outX p,b=Option.some X)→∀ c∈cysX p b,∀ d∈c,sideD p d=faceX p b
 all:(outX p).length=p.faces.length
end Go.Proofs.YtialfdomhoojiaaGreat
namespace Go.Proofs.YtialfdomhoojiaaGreat
open Go.RowKit

theorem mapsl_ne {w:World} {gm n:Nat} {f:Int→SV} (h:MapSl w gm n f) {g:Nat} {t:TypeId} {cs:Array Value} (hg:Blk w g t cs):g≠gm:=by
 rintro rfl
 obtain ⟨D,h1,-⟩:=h
 obtain ⟨es,clock,h2,-⟩:=h1
 unfold Blk at hg
 rw [hg] at h2
 cases h2
theorem mapsl_own {w:World} {gm n:Nat} {f:Int→SV} (h:MapSl w gm n f) {base:Nat} {e:TypeId} {size:Nat} {α:Type} {fe:α→List Value} {v:Value} {l:List α} (ho:Own w base e size fe v l):v.ownBlock≠some gm:=by
 rcases ho.2 with ⟨rfl,_⟩ | ⟨g,cap,cur,rfl,_,hh,_⟩
 · simp [Value.ownBlock]
 ·
  intro e'
  exact mapsl_ne h (cs:=cur) (g:=g) hh (by simpa [Value.ownBlock] using e')
theorem own_svok {w:World} {base:Nat} {e:TypeId} {size:Nat} {α:Type} {fe:α→List Value} {x:SV} {l:List α} (ho:Own w base e size fe (svV x) l):x.ok:=by
 obtain ⟨a,n,c⟩:=x
 rcases ho.2 with ⟨h,_⟩ | ⟨g,cap,cur,h,_⟩
 · unfold svV at h;injection h with h1;exact .inl h1
 · unfold svV at h;injection h with h1;exact .inr ⟨g,0,h1⟩
structure PathsM (w:World) (b:Nat) (p:Pl) (f:Int→SV):Prop where
 mp:∃ n,MapSl w b n f
 rd:∀ a∈p.arcs,Pts w (svV (f a.id)) (pathS p a)
theorem PathsM.keep {w w':World} {b:Nat} {p:Pl} {f:Int→SV} (h:PathsM w b p f) (hb:Below w.heap.size w w'):PathsM w' b p f:=by
 obtain ⟨⟨n,h1⟩,h2⟩:=h
 exact ⟨⟨n,h1.keep hb⟩,fun a ha=>(h2 a ha).mono hb⟩
theorem PathsM.lt {w:World} {b:Nat} {p:Pl} {f:Int→SV} (h:PathsM w b p f):b<w.heap.size:=by
 obtain ⟨⟨n,h1⟩,h2⟩:=h
 exact h1.lt
def RetPaths (w:World) (p:Pl) (e:Ending) (w':World):Prop:=∃ b f,e=.returned (.map (some b))∧Below w.heap.size w w'∧w.heap.size≤b∧PathsM w' b p f

set_option maxRecDepth 100000 in
set_option maxHeartbeats 8000000 in
theorem PathsOf_spec (v:Value) (p:Pl) (w:World) (h:PlV w v p) (hv:Valid p):Calls Tryz.prog 59 #[v] w (RetPaths w p):=by
 have HPt:=Lib.hid (fun id W (hW:Below w.heap.size w W)=>Path_spec v p id W (h.mono hW) hv.short)
 obtain ⟨_,_,_,al,rfl,hpa,⟨An,cn,rfl,-⟩,⟨⟨Aa,ca,rfl,hm1,hm2,hRa⟩,hVi⟩,⟨Af,cf,rfl,-⟩⟩:=h
 unfold maxLen at hm2
 have HRa:=Lib.hid hRa;have HVi:=Lib.hid hVi
 have hall:al.length≤256:=by
  have hl:=hv.lim
  unfold limS at hl
  simp only [Bool.or_eq_false_iff,decide_eq_false_iff_not] at hl
  have h2:=hl.2
  rw [hpa,List.length_map] at h2
  omega
 have HPa:=Lib.hid (show ∀ k (hk:k<al.length),al[k].1∈p.arcs from fun k hk=>by rw [hpa];exact List.mem_map_of_mem (List.getElem_mem hk))
 have HAl:=Lib.hid (show ∀ a∈p.arcs,∃ k,∃ hk:k<al.length,al[k].1=a from fun a ha=>by
  rw [hpa] at ha
  obtain ⟨x,hx,rfl⟩:=List.mem_map.1 ha
  obtain ⟨k,hk,rfl⟩:=List.mem_iff_getElem.1 hx
  exact ⟨k,hk,rfl⟩)
 have HPo:=Lib.hid (fun k (hk:k<al.length)=>hv.sound.path (HPa.out k hk))
 have HIb:=Lib.hid (fun k (hk:k<al.length)=>hv.id_pos (HPa.out k hk))
 have HNe:=Lib.hid (show ∀ j k (hj:j<al.length) (hk:k<al.length),j<k→al[j].1.id≠al[k].1.id from fun j k hj hk hjk e=>by
  have h1:=hv.sound.arcs
  rw [hpa,List.map_map,List.pairwise_map,List.pairwise_iff_getElem] at h1
  have:=h1 j k hj hk hjk
  simp only [Function.comp] at this
  omega)
 generalize p.nodes.length=nn at *
 generalize p.faces.length=nf at *
 clear hpa hRa hVi hv
 have hmm:=@run_makeMap Tryz.prog
 go_enter Tryz.func59,Tryz.ntmps59
 go_upto_region 2 with fail
 obtain ⟨gm,hgm⟩:∃ gm,gm=w.heap.size+1:=⟨_,rfl⟩
 obtain ⟨W1,hW⟩:∃ W:World,W=(w.alloc (.cells #[.slice An nn cn,.slice Aa al.length ca,.slice Af nf cf] 26)).alloc (.map #[] 0):=⟨_,rfl⟩
 have X1:Blk W1 w.heap.size 26 #[.slice An nn cn,.slice Aa al.length ca,.slice Af nf cf]:=by rw [hW];exact (Blk.made rfl _ _).alloc _
 have HM1:=Lib.hid (show MapSl W1 gm 0 (fun _=>sv0) by
  have:=MapSl.made (w.alloc (.cells #[.slice An nn cn,.slice Aa al.length ca,.slice Af nf cf] 26))
  rw [hW,hgm];simpa using this)
 have HB1:=Lib.hid (show Below w.heap.size w W1 by rw [hW];exact bA (bA (bR w) _) _)
 have hgl:w.heap.size<gm:=by omega
 rw [← hW,← hgm]
 clear hW hgm hmm
 have HX1:=Lib.hid X1
 obtain ⟨X1l,X1a,X1b,X1c,-,-,-⟩:=X1.facts3
 go_upto_block 0 with fail
 clear X1 X1l X1a X1b X1c
 go_wp2_with fail
 go_loopw [12] (fun i wr=>∃ (k:Nat) (f:Int→SV),k≤al.length∧i=.int .i64 k∧MapSl wr gm k f∧(∀ j (hj:j<al.length),j<k→Own wr w.heap.size 39 2 ptC (svV (f al[j].1.id)) (pathS p al[j].1))∧Blk wr w.heap.size 26 #[.slice An nn cn,.slice Aa al.length ca,.slice Af nf cf]∧Below w.heap.size w wr) (fun i _=>al.length-(intOf i).toNat)
 case atStart => exact ⟨0,fun _=>sv0,Nat.zero_le _,rfl,HM1.out,(fun j _ h=>by omega),HX1.out,HB1.out⟩
 case round =>
  obtain ⟨k,f,hk,rfl,mp,own,X1,hb⟩:=hrel
  obtain ⟨wo,rfl⟩:∃ wo:World,wo=wr:=⟨_,rfl⟩
  have HM:=Lib.hid mp;have HO:=Lib.hid own;have HX:=Lib.hid X1;have Hb:=Lib.hid hb
  have hzo:=hb.size
  have hgo:=mp.lt
  clear mp own hb HX1 HM1 HB1
  by_cases hlt:k<al.length
  ·
   obtain ⟨b,o,rfl,hlb,c0,c1,c2,c3,c4,c5⟩:=(HRa.out.mono Hb.out).ar hlt
   obtain ⟨Av,cv,hvv,-⟩:=HVi.out k hlt
   rw [hvv] at c3
   have hpo:=HPo.out k hlt
   have hib:=HIb.out k hlt
   have hne:=fun j hj hjk=>HNe.out j k hj hlt hjk
   have hpt:=HPt.out al[k].1.id
   rw [hpo] at hpt
   have HP:=Lib.hid (show ∀ (f:Int→SV) W,(∀ j (hj:j<al.length),j<k→Own W w.heap.size 39 2 ptC (svV (f al[j].1.id)) (pathS p al[j].1))→Own W w.heap.size 39 2 ptC (svV (f al[k].1.id)) (pathS p al[k].1)→∀ j (hj:j<al.length),j<k+1→Own W w.heap.size 39 2 ptC (svV (f al[j].1.id)) (pathS p al[j].1) from fun f W h1 h2 j hj hjk=>by
    by_cases e:j=k
    · subst e;exact h2
    · exact h1 j hj (by omega))
   have HNk:=Lib.hid hne
   clear hvv hpo hne
   generalize al[k].1=a at *
   generalize pathS p a=P at *
   obtain ⟨aid,afr,adst,avia,aleft,aright⟩:=a
   simp only at c0 c1 c2 c3 c4 c5 hib hpt HP HNk
   generalize avia.length=vn at *
   have HPk:=Lib.hid hpt
   clear hpt
   go_upto_region 5 with fail
   obtain ⟨W5,hW⟩:∃ W:World,W=wo.alloc (.cells #[.int .i64 aid,.int .i64 afr,.int .i64 adst,.slice Av vn cv,.int .i64 aleft,.int .i64 aright] 50):=⟨_,rfl⟩
   have HA:=Lib.hid (show Below wo.heap.size wo W5 by rw [hW];exact bA (bR wo) _)
   have X5:Blk W5 wo.heap.size 50 #[.int .i64 aid,.int .i64 afr,.int .i64 adst,.slice Av vn cv,.int .i64 aleft,.int .i64 aright]:=by rw [hW];exact Blk.made rfl _ _
   rw [← hW]
   clear hW c0 c1 c2 c3 c4 c5 hlb
   replace X1:=HX.out.keep HA.out
   obtain ⟨X5l,X5a,X5b,X5c,X5d,X5e,X5f,-,-,-,-,-,-⟩:=X5.facts6
   try clear X1l
   try clear X1a
   try clear X1b
   try clear X1c
   obtain ⟨X1l,X1a,X1b,X1c,-,-,-⟩:=X1.facts3
   go_wp2_with fail
   refine (HPk.out _ (bT Hb.out HA.out)).mono ?_
   rintro e w6 ⟨A6,c6,rfl,hb6,ho6⟩
   simp only [Option.getD_some,Option.isSome_some,if_true] at ho6 ⊢
   have HB6:=Lib.hid (bT HA.out hb6)
   have HO6:=Lib.hid ho6
   have HX5:=Lib.hid (show Blk W5 wo.heap.size 50 #[.int .i64 aid,.int .i64 afr,.int .i64 adst,.slice Av vn cv,.int .i64 aleft,.int .i64 aright] from X5)
   have X6:=HX5.out.keep hb6
   have HM6:=Lib.hid (HM.out.keep HB6.out)
   have hz5:=HA.out.size
   have hz6:=hb6.size
   clear hb6 ho6 X5 X5l X5a X5b X5c X5d X5e X5f X1 X1l X1a X1b X1c HX5
   obtain ⟨w7,hr7,hm7,hg7⟩:=HM6.out.upd (by omega) aid (wfI_of (by omega) (by omega)) ⟨A6,P.length,c6⟩ (own_svok (x:=⟨A6,P.length,c6⟩) HO6.out)
   have HM7:=Lib.hid hm7
   have nX:=fun (h:gm=w.heap.size)=>(show False by omega)
   have HX7:=Lib.hid (Blk.grow (HX.out.keep HB6.out) hg7 (fun e=>mapsl_ne HM6.out (HX.out.keep HB6.out) (Option.some.inj e)))
   have HO7:=Lib.hid (show Own w7 w.heap.size 39 2 ptC (svV ⟨A6,P.length,c6⟩) P from Own.grown (Own.mono_base HO6.out (by omega)) hg7 (fun g hg e=>mapsl_own HM6.out HO6.out (hg.trans e)))
   have HOo:=Lib.hid (show ∀ j (hj:j<al.length),j<k→Own w7 w.heap.size 39 2 ptC (svV (f al[j].1.id)) (pathS p al[j].1) from fun j hj hjk =>
    Own.grown ((HO.out j hj hjk).keep HB6.out) hg7 (fun g hg e=>mapsl_own HM6.out ((HO.out j hj hjk).keep HB6.out) (hg.trans e)))
   have HB7:=Lib.hid (bG (bT Hb.out HB6.out) hg7 (fun g hg=>by have:=Option.some.inj hg;omega))
   unfold svV at hr7
   clear hm7 hg7 nX
   obtain ⟨X6l,X6a,X6b,X6c,X6d,X6e,X6f,-,-,-,-,-,-⟩:=X6.facts6
   go_wp2_with fail
   go_roundw
   case rel => exact ⟨k+1,fun i=>if i=aid then ⟨A6,P.length,c6⟩ else f i,by omega,by go_num,HM7.out,HP.out (fun i=>if i=aid then ⟨A6,P.length,c6⟩ else f i) w7 (fun j hj hjk=>by
    show Own w7 _ _ _ _ (svV (if _=aid then _ else _)) _
    rw [if_neg (HNk.out j hj hjk)];exact HOo.out j hj hjk) (by
    show Own w7 _ _ _ _ (svV (if aid=aid then _ else _)) _
    rw [if_pos rfl];exact HO7.out),HX7.out,HB7.out⟩
   case measure => simp [intOf];omega
  ·
   obtain rfl:k=al.length:=by omega
   go_wp2_with fail
   go_ret
   exact ⟨gm,f,rfl,Hb.out,by omega,⟨_,HM.out⟩,fun a ha=>by
    obtain ⟨j,hj,rfl⟩:=HAl.out a ha
    exact (HO.out j hj hj).sl⟩
end Go.Proofs.YtialfdomhoojiaaGreat
namespace Go.Proofs.YtialfdomhoojiaaGreat
open Go.RowKit

theorem segX_succ (p:Pl) {X:List Int} {k:Nat} (hk:k<X.length):segX p (X.take (k+1))=segX p (X.take k)++segL (pthD p X[k]):=by
 unfold segX
 rw [List.take_succ_eq_append_getElem hk,List.flatMap_append]
 simp
theorem segL_succ {P:List Pt} {m:Nat} (hm:m+1<P.length):(segL P).take (m+1)=(segL P).take m++[(P.getD m pt0,P.getD (m+1) pt0)]:=by
 have h:m<(segL P).length:=by unfold segL;rw [List.length_map,List.length_range];omega
 rw [List.take_succ_eq_append_getElem h]
 simp [segL]

set_option maxRecDepth 100000 in
set_option maxHeartbeats 8000000 in
theorem SegsE_spec {σ:Type} (w:World) (gm:Nat) (p:Pl) (f:Int→SV) (hpm:PathsM w gm p f) (hv:Valid p) (vc:Value) (X:List Int) (hX:Ints w vc X) (hd:∀ d∈X,d∈dartsD p) (g1 g2 g3:Nat)
  (Inv:σ→World→Prop) (upd:σ→Pt×Pt→σ) (hI:∀ s W,Inv s W→Below w.heap.size w W) (hD:∀ s W,Inv s W→Inv s W.drew)
  (hst:∀ s W q,q∈segX p X→Inv s W→Calls Tryz.prog 199 #[ptV q.1,ptV q.2,.pointer (some ⟨g1,0,none⟩),.pointer (some ⟨g2,0,none⟩),.pointer (some ⟨g3,0,none⟩)] W fun e W'=>e=.returned (.tuple #[])∧Inv (upd s q) W'∧Below w.heap.size W W')
  (s:σ) (W:World) (h0:Inv s W) :
  Calls Tryz.prog 79 #[.map (some gm),vc,.func (.func 199) #[] #[.pointer (some ⟨g1,0,none⟩),.pointer (some ⟨g2,0,none⟩),.pointer (some ⟨g3,0,none⟩)]] W fun e W'=>e=.returned (.tuple #[])∧Inv ((segX p X).foldl upd s) W'∧Below w.heap.size W W':=by
 obtain ⟨Ac,cc,rfl,hc1,hc2,hRc⟩:=hX
 unfold maxLen at hc2
 have HRc:=Lib.hid hRc;have HPm:=Lib.hid hpm;have HI:=Lib.hid hI;have HSt:=Lib.hid hst;have HDr:=Lib.hid hD;have HDd:=Lib.hid hd;have HV:=Lib.hid hv
 have H0:=Lib.hid h0
 have HTk:=Lib.hid (fun k (hk:k<X.length)=>segX_succ p hk)
 obtain ⟨R,hR⟩:∃ R,(segX p X).foldl upd s=R:=⟨_,rfl⟩
 rw [hR]
 have HRr:=Lib.hid hR
 have HMem:=Lib.hid (fun k (hk:k<X.length) q (hq:q∈segL (pthD p X[k]))=>show q∈segX p X from List.mem_flatMap.2 ⟨_,List.getElem_mem hk,hq⟩)
 clear hRc hpm hI hst hD hd hv h0 hR
 go_enter Tryz.func79,Tryz.ntmps79
 go_wp2_with fail
 go_loopw [12] (fun i wr=>∃ k:Nat,k≤X.length∧i=.int .i64 k∧Inv ((segX p (X.take k)).foldl upd s) wr∧Below w.heap.size W wr) (fun i _=>X.length-(intOf i).toNat)
 case atStart => exact ⟨0,Nat.zero_le _,rfl,H0.out,Below.refl _ _⟩
 case round =>
  obtain ⟨k,hk,rfl,hinv,hbw⟩:=hrel
  obtain ⟨wo,rfl⟩:∃ wo:World,wo=wr:=⟨_,rfl⟩
  have HIn:=Lib.hid hinv;have HBw:=Lib.hid hbw
  have Hb:=Lib.hid (HI.out _ _ hinv)
  clear hinv hbw
  by_cases hlt:k<X.length
  ·
   obtain ⟨b,o,rfl,hlb,c0⟩:=(HRc.out.mono Hb.out).int hlt
   have hdd:=HDd.out _ (List.getElem_mem hlt)
   have htk:=HTk.out k hlt
   have hmem:=HMem.out k hlt
   generalize X[k]=d at *
   obtain ⟨a,ha,hor,hpt⟩:=HV.out.pth_dart hdd
   have hid:=HV.out.id_pos ha
   rw [hpt] at htk hmem
   obtain ⟨n,hmp⟩:=(HPm.out.keep Hb.out).mp
   have hlk:=hmp.look a.id (wfI_of (by omega) (by omega))
   have hpts:=HPm.out.rd a ha
   have hlen:2≤(pathS p a).length:=by have:=pathS_length p a;omega
   have HTk2:=Lib.hid htk
   have HMm:=Lib.hid hmem
   have k1:IntKind.i64.wrap (-d)=-d:=IntWalk.i64_in _ (by omega)
   have km:max d (-d)=a.id:=by omega
   have hvia:=HV.out.via_len ha
   have hpl:(pathS p a).length≤66:=by have:=pathS_length p a;omega
   generalize f a.id=x at *
   obtain ⟨Ap,np,cp⟩:=x
   unfold svV at hlk hpts
   obtain ⟨Ap',cp',he,hp1,hp2,hRp⟩:=hpts
   injection he with e1 e2 e3
   subst e1 e2 e3
   unfold maxLen at hp2
   have HRp:=Lib.hid hRp
   clear hmp hdd htk hmem hpt hor ha hRp hvia
   generalize a.id=ai at *
   generalize pathS p a=P at *
   clear hid
   obtain ⟨s1,hs1⟩:∃ s1,(segX p (X.take k)).foldl upd s=s1:=⟨_,rfl⟩
   rw [hs1] at HIn
   have HS1:=Lib.hid hs1
   clear hs1
   go_upto_block 2 with fail
   go_wp2_with fail
   go_loopw [9] (fun i wr=>∃ j:Nat,1≤j∧j≤P.length∧i=.int .i64 j∧Inv (((segL P).take (j-1)).foldl upd s1) wr∧Below w.heap.size wo wr) (fun i _=>P.length-(intOf i).toNat)
   case atStart => exact ⟨1,Nat.le_refl _,by omega,rfl,HIn.out,Below.refl _ _⟩
   case round =>
    obtain ⟨j,hj1,hj2,rfl,hinv,hbo⟩:=hrel
    have HIn2:=Lib.hid hinv;have HBo:=Lib.hid hbo
    have Hb2:=Lib.hid (HI.out _ _ hinv)
    clear hinv hbo
    by_cases hlj:j<P.length
    ·
     obtain ⟨m,rfl⟩:∃ m,j=m+1:=⟨j-1,by omega⟩
     have hmp:m<P.length:=by omega
     have hq:=HMm.out (P.getD m pt0,P.getD (m+1) pt0) (List.mem_map.2 ⟨m,List.mem_range.2 (by omega),rfl⟩)
     have htk:=segL_succ hlj
     have hst:=HSt.out _ wr.drew _ hq (HDr.out _ _ HIn2.out)
     rw [show m+1-1=m by omega] at hst
     have ea:P.getD m pt0=P[m]:=by simp only [List.getD_eq_getElem?_getD,List.getElem?_eq_getElem hmp,Option.getD_some]
     have eb:P.getD (m+1) pt0=P[m+1]:=by simp only [List.getD_eq_getElem?_getD,List.getElem?_eq_getElem hlj,Option.getD_some]
     rw [ea,eb] at hst htk
     obtain ⟨bp,op,hAp,hlp,e10,e11⟩:=(HRp.out).pt hmp
     obtain ⟨bp',op',hAp',-,e20,e21⟩:=(HRp.out).pt hlj
     rw [hAp] at hAp'
     injection hAp' with hAp'
     injection hAp' with x1 x2 _
     subst x1 x2
     replace e10:=keepc Hb2.out e10
     replace e11:=keepc Hb2.out e11
     replace e20:=keepc Hb2.out e20
     replace e21:=keepc Hb2.out e21
     have HTl:=Lib.hid htk
     generalize P[m]=pa at *
     generalize P[m+1]=pb at *
     unfold ptV at hst
     simp only at hst
     have HC:=Lib.hid hst
     clear hst htk ea eb hq
     subst hAp
     have k2:IntKind.i64.wrap ((m:Int)+1-1)=m:=by rw [show (m:Int)+1-1=m by omega];exact IntWalk.i64_in _ (by omega)
     have k3:(m:Int)<P.length:=by omega
     have k8:IntKind.i64.wrap (m:Int)=m:=IntWalk.i64_in _ (by omega)
     have k4:0≤(m:Int):=by omega
     have k5:(m:Int)+1-1=m:=by omega
     have k6:(m:Int)+1<P.length:=by omega
     have k7:0≤(m:Int)+1:=by omega
     rw [show (((m+1:Nat)):Int)=(m:Int)+1 from by omega]
     go_upto_region 7 with fail
     refine rg_start (SinceB (w.heap.size) wr) (.run 10 0 0 (.call 10 2047 (.done))) (by kernel_rfl) (Below.drew (Below.refl _ _)) (by kernel_rfl) (by kernel_rfl) (Nat.le_of_ble_eq_true (by kernel_rfl)) ?_
     intro opsR QR Hops HQrg hS
     iterate 10
      apply rg_pB;exact Hops;exact rfl;exact hS;exact rfl
      · intro _ hqc;go_simp;try rfl
      try simp only [pu]
     refine rg_call (i:=10) (get_of Hops rfl) (fun K hK=>?_)
     have HSrg:=Lib.hid hS;clear hS
     refine rg_run (wanted_plain rfl) ?_
     go_simp
     refine HC.out.mono ?_
     rintro e w4 ⟨rfl,hin4,hb4⟩
     have hS:SinceB w.heap.size wr w4:=Below.trans HSrg.out hb4
     have HIn4:=Lib.hid hin4
     clear hb4 hin4
     clear HSrg
     refine hK.out _ _ hS (fun _=>?_)
     clear hK K
     try simp only [pu]
     refine rg_done ?_
     refine HQrg.down _ _ ?_
     have hB:Below (w.heap.size) wr _:=hS
     clear hS HQrg Hops
     have HBo2:=Lib.hid (Below.trans HBo.out hB)
     clear hB e10 e11 e20 e21 hlp
     go_wp2_with fail
     go_roundw
     case rel => exact ⟨m+1+1,by omega,by omega,by go_num,by rw [show m+1+1-1=m+1 by omega,HTl.out,List.foldl_append];exact HIn4.out,HBo2.out⟩
     case measure => simp [intOf];omega
    ·
     obtain rfl:j=P.length:=by omega
     have hlS:(segL P).length=P.length-1:=by unfold segL;rw [List.length_map,List.length_range]
     have hfin:=HIn2.out
     rw [List.take_of_length_le (by omega),← HS1.out,← List.foldl_append,← HTk2.out] at hfin
     have HF:=Lib.hid hfin
     clear hfin hlS
     go_wp2_with fail
     go_roundw
     case rel => exact ⟨k+1,by omega,by go_num,HF.out,Below.trans HBw.out HBo.out⟩
     case measure => simp [intOf];omega
  ·
   obtain rfl:k=X.length:=by omega
   have hfin:=HIn.out
   rw [List.take_length,HRr.out] at hfin
   have HF:=Lib.hid hfin
   clear hfin
   go_wp2_with fail
   exact bodyPost_end (v:=.tuple #[]) (results_none rfl _ _ _) rfl ⟨rfl,HF.out,HBw.out⟩

end Go.Proofs.YtialfdomhoojiaaGreat
namespace Go.Proofs.YtialfdomhoojiaaGreat
open Go.RowKit

theorem segX_succ' (p:Pl) (A:List Int) (d:Int) (B:List Int):segX p (A++d::B)=segX p A++(segL (pthD p d)++segX p B):=by
 unfold segX
 rw [List.flatMap_append,List.flatMap_cons]
theorem seg_pre (p:Pl) {X:List Int} {k:Nat} (hk:k<X.length):∀ m,m+1<(pthD p X[k]).length→∃ r,segX p X=(segX p (X.take k)++(segL (pthD p X[k])).take m)++((pthD p X[k]).getD m pt0,(pthD p X[k]).getD (m+1) pt0)::r:=fun m hm=>by
 have hl:m<(segL (pthD p X[k])).length:=by unfold segL;rw [List.length_map,List.length_range];omega
 have e1:segL (pthD p X[k])=(segL (pthD p X[k])).take m++(segL (pthD p X[k]))[m]::(segL (pthD p X[k])).drop (m+1):=by rw [← List.drop_eq_getElem_cons hl,List.take_append_drop]
 have e2:(segL (pthD p X[k]))[m]=((pthD p X[k]).getD m pt0,(pthD p X[k]).getD (m+1) pt0):=by simp [segL]
 have e3:X=X.take k++X[k]::X.drop (k+1):=by rw [← List.drop_eq_getElem_cons hk,List.take_append_drop]
 refine ⟨(segL (pthD p X[k])).drop (m+1)++segX p (X.drop (k+1)),?_⟩
 have e4:segX p X=segX p (X.take k)++(segL (pthD p X[k])++segX p (X.drop (k+1))):=by
  rw [← segX_succ' p,← e3]
 rw [e4,List.append_assoc,← List.cons_append,← e2,← List.append_assoc ((segL (pthD p X[k])).take m),← e1]

set_option maxRecDepth 100000 in
set_option maxHeartbeats 8000000 in
theorem SegsR_spec {σ:Type} (w:World) (gm:Nat) (p:Pl) (f:Int→SV) (hpm:PathsM w gm p f) (hv:Valid p) (vc:Value) (X:List Int) (hX:Ints w vc X) (hd:∀ d∈X,d∈dartsD p) (g1 g2 g3:Nat)
  (Inv:σ→World→Prop) (upd:σ→Pt×Pt→σ) (hI:∀ s W,Inv s W→Below w.heap.size w W) (hD:∀ s W,Inv s W→Inv s W.drew)
  (s:σ) (hst:∀ S0 W q r,segX p X=S0++q::r→Inv (S0.foldl upd s) W→Calls Tryz.prog 202 #[ptV q.1,ptV q.2,.pointer (some ⟨g1,0,none⟩),.pointer (some ⟨g2,0,none⟩),.pointer (some ⟨g3,0,none⟩)] W fun e W'=>e=.returned (.tuple #[])∧Inv (upd (S0.foldl upd s) q) W'∧Below w.heap.size W W')
  (W:World) (h0:Inv s W) :
  Calls Tryz.prog 79 #[.map (some gm),vc,.func (.func 202) #[] #[.pointer (some ⟨g1,0,none⟩),.pointer (some ⟨g2,0,none⟩),.pointer (some ⟨g3,0,none⟩)]] W fun e W'=>e=.returned (.tuple #[])∧Inv ((segX p X).foldl upd s) W'∧Below w.heap.size W W':=by
 obtain ⟨Ac,cc,rfl,hc1,hc2,hRc⟩:=hX
 unfold maxLen at hc2
 have HRc:=Lib.hid hRc;have HPm:=Lib.hid hpm;have HI:=Lib.hid hI;have HSt:=Lib.hid hst;have HDr:=Lib.hid hD;have HDd:=Lib.hid hd;have HV:=Lib.hid hv
 have H0:=Lib.hid h0
 have HTk:=Lib.hid (fun k (hk:k<X.length)=>segX_succ p hk)
 obtain ⟨R,hR⟩:∃ R,(segX p X).foldl upd s=R:=⟨_,rfl⟩
 rw [hR]
 have HRr:=Lib.hid hR
 have HMem:=Lib.hid (fun k (hk:k<X.length)=>seg_pre p hk)
 clear hRc hpm hI hst hD hd hv h0 hR
 go_enter Tryz.func79,Tryz.ntmps79
 go_wp2_with fail
 go_loopw [12] (fun i wr=>∃ k:Nat,k≤X.length∧i=.int .i64 k∧Inv ((segX p (X.take k)).foldl upd s) wr∧Below w.heap.size W wr) (fun i _=>X.length-(intOf i).toNat)
 case atStart => exact ⟨0,Nat.zero_le _,rfl,H0.out,Below.refl _ _⟩
 case round =>
  obtain ⟨k,hk,rfl,hinv,hbw⟩:=hrel
  obtain ⟨wo,rfl⟩:∃ wo:World,wo=wr:=⟨_,rfl⟩
  have HIn:=Lib.hid hinv;have HBw:=Lib.hid hbw
  have Hb:=Lib.hid (HI.out _ _ hinv)
  clear hinv hbw
  by_cases hlt:k<X.length
  ·
   obtain ⟨b,o,rfl,hlb,c0⟩:=(HRc.out.mono Hb.out).int hlt
   have hdd:=HDd.out _ (List.getElem_mem hlt)
   have htk:=HTk.out k hlt
   have hmem:=HMem.out k hlt
   generalize X[k]=d at *
   obtain ⟨a,ha,hor,hpt⟩:=HV.out.pth_dart hdd
   have hid:=HV.out.id_pos ha
   rw [hpt] at htk hmem
   obtain ⟨n,hmp⟩:=(HPm.out.keep Hb.out).mp
   have hlk:=hmp.look a.id (wfI_of (by omega) (by omega))
   have hpts:=HPm.out.rd a ha
   have hlen:2≤(pathS p a).length:=by have:=pathS_length p a;omega
   have HTk2:=Lib.hid htk
   have HMm:=Lib.hid hmem
   have k1:IntKind.i64.wrap (-d)=-d:=IntWalk.i64_in _ (by omega)
   have km:max d (-d)=a.id:=by omega
   have hvia:=HV.out.via_len ha
   have hpl:(pathS p a).length≤66:=by have:=pathS_length p a;omega
   generalize f a.id=x at *
   obtain ⟨Ap,np,cp⟩:=x
   unfold svV at hlk hpts
   obtain ⟨Ap',cp',he,hp1,hp2,hRp⟩:=hpts
   injection he with e1 e2 e3
   subst e1 e2 e3
   unfold maxLen at hp2
   have HRp:=Lib.hid hRp
   clear hmp hdd htk hmem hpt hor ha hRp hvia
   generalize a.id=ai at *
   generalize pathS p a=P at *
   clear hid
   obtain ⟨s1,hs1⟩:∃ s1,(segX p (X.take k)).foldl upd s=s1:=⟨_,rfl⟩
   rw [hs1] at HIn
   have HS1:=Lib.hid hs1
   clear hs1
   go_upto_block 2 with fail
   go_wp2_with fail
   go_loopw [9] (fun i wr=>∃ j:Nat,1≤j∧j≤P.length∧i=.int .i64 j∧Inv (((segL P).take (j-1)).foldl upd s1) wr∧Below w.heap.size wo wr) (fun i _=>P.length-(intOf i).toNat)
   case atStart => exact ⟨1,Nat.le_refl _,by omega,rfl,HIn.out,Below.refl _ _⟩
   case round =>
    obtain ⟨j,hj1,hj2,rfl,hinv,hbo⟩:=hrel
    have HIn2:=Lib.hid hinv;have HBo:=Lib.hid hbo
    have Hb2:=Lib.hid (HI.out _ _ hinv)
    clear hinv hbo
    by_cases hlj:j<P.length
    ·
     obtain ⟨m,rfl⟩:∃ m,j=m+1:=⟨j-1,by omega⟩
     have hmp:m<P.length:=by omega
     obtain ⟨r,hq⟩:=HMm.out m hlj
     have htk:=segL_succ hlj
     have hin:=HIn2.out
     rw [show m+1-1=m by omega] at hin
     have hst:=HSt.out _ wr.drew _ r hq (by rw [List.foldl_append,HS1.out];exact HDr.out _ _ hin)
     rw [List.foldl_append,HS1.out] at hst
     have ea:P.getD m pt0=P[m]:=by simp only [List.getD_eq_getElem?_getD,List.getElem?_eq_getElem hmp,Option.getD_some]
     have eb:P.getD (m+1) pt0=P[m+1]:=by simp only [List.getD_eq_getElem?_getD,List.getElem?_eq_getElem hlj,Option.getD_some]
     rw [ea,eb] at hst htk
     obtain ⟨bp,op,hAp,hlp,e10,e11⟩:=(HRp.out).pt hmp
     obtain ⟨bp',op',hAp',-,e20,e21⟩:=(HRp.out).pt hlj
     rw [hAp] at hAp'
     injection hAp' with hAp'
     injection hAp' with x1 x2 _
     subst x1 x2
     replace e10:=keepc Hb2.out e10
     replace e11:=keepc Hb2.out e11
     replace e20:=keepc Hb2.out e20
     replace e21:=keepc Hb2.out e21
     have HTl:=Lib.hid htk
     generalize P[m]=pa at *
     generalize P[m+1]=pb at *
     unfold ptV at hst
     simp only at hst
     have HC:=Lib.hid hst
     clear hst htk ea eb hq hin
     subst hAp
     have k2:IntKind.i64.wrap ((m:Int)+1-1)=m:=by rw [show (m:Int)+1-1=m by omega];exact IntWalk.i64_in _ (by omega)
     have k3:(m:Int)<P.length:=by omega
     have k8:IntKind.i64.wrap (m:Int)=m:=IntWalk.i64_in _ (by omega)
     have k4:0≤(m:Int):=by omega
     have k5:(m:Int)+1-1=m:=by omega
     have k6:(m:Int)+1<P.length:=by omega
     have k7:0≤(m:Int)+1:=by omega
     rw [show (((m+1:Nat)):Int)=(m:Int)+1 from by omega]
     go_upto_region 7 with fail
     refine rg_start (SinceB (w.heap.size) wr) (.run 10 0 0 (.call 10 2047 (.done))) (by kernel_rfl) (Below.drew (Below.refl _ _)) (by kernel_rfl) (by kernel_rfl) (Nat.le_of_ble_eq_true (by kernel_rfl)) ?_
     intro opsR QR Hops HQrg hS
     iterate 10
      apply rg_pB;exact Hops;exact rfl;exact hS;exact rfl
      · intro _ hqc;go_simp;try rfl
      try simp only [pu]
     refine rg_call (i:=10) (get_of Hops rfl) (fun K hK=>?_)
     have HSrg:=Lib.hid hS;clear hS
     refine rg_run (wanted_plain rfl) ?_
     go_simp
     refine HC.out.mono ?_
     rintro e w4 ⟨rfl,hin4,hb4⟩
     have hS:SinceB w.heap.size wr w4:=Below.trans HSrg.out hb4
     have HIn4:=Lib.hid hin4
     clear hb4 hin4
     clear HSrg
     refine hK.out _ _ hS (fun _=>?_)
     clear hK K
     try simp only [pu]
     refine rg_done ?_
     refine HQrg.down _ _ ?_
     have hB:Below (w.heap.size) wr _:=hS
     clear hS HQrg Hops
     have HBo2:=Lib.hid (Below.trans HBo.out hB)
     clear hB e10 e11 e20 e21 hlp
     go_wp2_with fail
     go_roundw
     case rel => exact ⟨m+1+1,by omega,by omega,by go_num,by rw [show m+1+1-1=m+1 by omega,HTl.out,List.foldl_append];exact HIn4.out,HBo2.out⟩
     case measure => simp [intOf];omega
    ·
     obtain rfl:j=P.length:=by omega
     have hlS:(segL P).length=P.length-1:=by unfold segL;rw [List.length_map,List.length_range]
     have hfin:=HIn2.out
     rw [List.take_of_length_le (by omega),← HS1.out,← List.foldl_append,← HTk2.out] at hfin
     have HF:=Lib.hid hfin
     clear hfin hlS
     go_wp2_with fail
     go_roundw
     case rel => exact ⟨k+1,by omega,by go_num,HF.out,Below.trans HBw.out HBo.out⟩
     case measure => simp [intOf];omega
  ·
   obtain rfl:k=X.length:=by omega
   have hfin:=HIn.out
   rw [List.take_length,HRr.out] at hfin
   have HF:=Lib.hid hfin
   clear hfin
   go_wp2_with fail
   exact bodyPost_end (v:=.tuple #[]) (results_none rfl _ _ _) rfl ⟨rfl,HF.out,HBw.out⟩


set_option maxRecDepth 100000 in
set_option maxHeartbeats 8000000 in
theorem SegsM_spec {σ:Type} (w:World) (gm:Nat) (p:Pl) (f:Int→SV) (hpm:PathsM w gm p f) (hv:Valid p) (vc:Value) (X:List Int) (hX:Ints w vc X) (hd:∀ d∈X,d∈dartsD p) (g1:Nat)
  (Inv:σ→World→Prop) (upd:σ→Pt×Pt→σ) (hI:∀ s W,Inv s W→Below w.heap.size w W) (hD:∀ s W,Inv s W→Inv s W.drew)
  (s:σ) (hst:∀ S0 W q r,segX p X=S0++q::r→Inv (S0.foldl upd s) W→Calls Tryz.prog 80 #[ptV q.1,ptV q.2,.pointer (some ⟨g1,0,none⟩)] W fun e W'=>e=.returned (.tuple #[])∧Inv (upd (S0.foldl upd s) q) W'∧Below w.heap.size W W')
  (W:World) (h0:Inv s W) :
  Calls Tryz.prog 79 #[.map (some gm),vc,.func (.func 80) #[] #[.pointer (some ⟨g1,0,none⟩)]] W fun e W'=>e=.returned (.tuple #[])∧Inv ((segX p X).foldl upd s) W'∧Below w.heap.size W W':=by
 obtain ⟨Ac,cc,rfl,hc1,hc2,hRc⟩:=hX
 unfold maxLen at hc2
 have HRc:=Lib.hid hRc;have HPm:=Lib.hid hpm;have HI:=Lib.hid hI;have HSt:=Lib.hid hst;have HDr:=Lib.hid hD;have HDd:=Lib.hid hd;have HV:=Lib.hid hv
 have H0:=Lib.hid h0
 have HTk:=Lib.hid (fun k (hk:k<X.length)=>segX_succ p hk)
 obtain ⟨R,hR⟩:∃ R,(segX p X).foldl upd s=R:=⟨_,rfl⟩
 rw [hR]
 have HRr:=Lib.hid hR
 have HMem:=Lib.hid (fun k (hk:k<X.length)=>seg_pre p hk)
 clear hRc hpm hI hst hD hd hv h0 hR
 go_enter Tryz.func79,Tryz.ntmps79
 go_wp2_with fail
 go_loopw [12] (fun i wr=>∃ k:Nat,k≤X.length∧i=.int .i64 k∧Inv ((segX p (X.take k)).foldl upd s) wr∧Below w.heap.size W wr) (fun i _=>X.length-(intOf i).toNat)
 case atStart => exact ⟨0,Nat.zero_le _,rfl,H0.out,Below.refl _ _⟩
 case round =>
  obtain ⟨k,hk,rfl,hinv,hbw⟩:=hrel
  obtain ⟨wo,rfl⟩:∃ wo:World,wo=wr:=⟨_,rfl⟩
  have HIn:=Lib.hid hinv;have HBw:=Lib.hid hbw
  have Hb:=Lib.hid (HI.out _ _ hinv)
  clear hinv hbw
  by_cases hlt:k<X.length
  ·
   obtain ⟨b,o,rfl,hlb,c0⟩:=(HRc.out.mono Hb.out).int hlt
   have hdd:=HDd.out _ (List.getElem_mem hlt)
   have htk:=HTk.out k hlt
   have hmem:=HMem.out k hlt
   generalize X[k]=d at *
   obtain ⟨a,ha,hor,hpt⟩:=HV.out.pth_dart hdd
   have hid:=HV.out.id_pos ha
   rw [hpt] at htk hmem
   obtain ⟨n,hmp⟩:=(HPm.out.keep Hb.out).mp
   have hlk:=hmp.look a.id (wfI_of (by omega) (by omega))
   have hpts:=HPm.out.rd a ha
   have hlen:2≤(pathS p a).length:=by have:=pathS_length p a;omega
   have HTk2:=Lib.hid htk
   have HMm:=Lib.hid hmem
   have k1:IntKind.i64.wrap (-d)=-d:=IntWalk.i64_in _ (by omega)
   have km:max d (-d)=a.id:=by omega
   have hvia:=HV.out.via_len ha
   have hpl:(pathS p a).length≤66:=by have:=pathS_length p a;omega
   generalize f a.id=x at *
   obtain ⟨Ap,np,cp⟩:=x
   unfold svV at hlk hpts
   obtain ⟨Ap',cp',he,hp1,hp2,hRp⟩:=hpts
   injection he with e1 e2 e3
   subst e1 e2 e3
   unfold maxLen at hp2
   have HRp:=Lib.hid hRp
   clear hmp hdd htk hmem hpt hor ha hRp hvia
   generalize a.id=ai at *
   generalize pathS p a=P at *
   clear hid
   obtain ⟨s1,hs1⟩:∃ s1,(segX p (X.take k)).foldl upd s=s1:=⟨_,rfl⟩
   rw [hs1] at HIn
   have HS1:=Lib.hid hs1
   clear hs1
   go_upto_block 2 with fail
   go_wp2_with fail
   go_loopw [9] (fun i wr=>∃ j:Nat,1≤j∧j≤P.length∧i=.int .i64 j∧Inv (((segL P).take (j-1)).foldl upd s1) wr∧Below w.heap.size wo wr) (fun i _=>P.length-(intOf i).toNat)
   case atStart => exact ⟨1,Nat.le_refl _,by omega,rfl,HIn.out,Below.refl _ _⟩
   case round =>
    obtain ⟨j,hj1,hj2,rfl,hinv,hbo⟩:=hrel
    have HIn2:=Lib.hid hinv;have HBo:=Lib.hid hbo
    have Hb2:=Lib.hid (HI.out _ _ hinv)
    clear hinv hbo
    by_cases hlj:j<P.length
    ·
     obtain ⟨m,rfl⟩:∃ m,j=m+1:=⟨j-1,by omega⟩
     have hmp:m<P.length:=by omega
     obtain ⟨r,hq⟩:=HMm.out m hlj
     have htk:=segL_succ hlj
     have hin:=HIn2.out
     rw [show m+1-1=m by omega] at hin
     have hst:=HSt.out _ wr.drew _ r hq (by rw [List.foldl_append,HS1.out];exact HDr.out _ _ hin)
     rw [List.foldl_append,HS1.out] at hst
     have ea:P.getD m pt0=P[m]:=by simp only [List.getD_eq_getElem?_getD,List.getElem?_eq_getElem hmp,Option.getD_some]
     have eb:P.getD (m+1) pt0=P[m+1]:=by simp only [List.getD_eq_getElem?_getD,List.getElem?_eq_getElem hlj,Option.getD_some]
     rw [ea,eb] at hst htk
     obtain ⟨bp,op,hAp,hlp,e10,e11⟩:=(HRp.out).pt hmp
     obtain ⟨bp',op',hAp',-,e20,e21⟩:=(HRp.out).pt hlj
     rw [hAp] at hAp'
     injection hAp' with hAp'
     injection hAp' with x1 x2 _
     subst x1 x2
     replace e10:=keepc Hb2.out e10
     replace e11:=keepc Hb2.out e11
     replace e20:=keepc Hb2.out e20
     replace e21:=keepc Hb2.out e21
     have HTl:=Lib.hid htk
     generalize P[m]=pa at *
     generalize P[m+1]=pb at *
     unfold ptV at hst
     simp only at hst
     have HC:=Lib.hid hst
     clear hst htk ea eb hq hin
     subst hAp
     have k2:IntKind.i64.wrap ((m:Int)+1-1)=m:=by rw [show (m:Int)+1-1=m by omega];exact IntWalk.i64_in _ (by omega)
     have k3:(m:Int)<P.length:=by omega
     have k8:IntKind.i64.wrap (m:Int)=m:=IntWalk.i64_in _ (by omega)
     have k4:0≤(m:Int):=by omega
     have k5:(m:Int)+1-1=m:=by omega
     have k6:(m:Int)+1<P.length:=by omega
     have k7:0≤(m:Int)+1:=by omega
     rw [show (((m+1:Nat)):Int)=(m:Int)+1 from by omega]
     go_upto_region 7 with fail
     refine rg_start (SinceB (w.heap.size) wr) (.run 10 0 0 (.call 10 2047 (.done))) (by kernel_rfl) (Below.drew (Below.refl _ _)) (by kernel_rfl) (by kernel_rfl) (Nat.le_of_ble_eq_true (by kernel_rfl)) ?_
     intro opsR QR Hops HQrg hS
     iterate 10
      apply rg_pB;exact Hops;exact rfl;exact hS;exact rfl
      · intro _ hqc;go_simp;try rfl
      try simp only [pu]
     refine rg_call (i:=10) (get_of Hops rfl) (fun K hK=>?_)
     have HSrg:=Lib.hid hS;clear hS
     refine rg_run (wanted_plain rfl) ?_
     go_simp
     refine HC.out.mono ?_
     rintro e w4 ⟨rfl,hin4,hb4⟩
     have hS:SinceB w.heap.size wr w4:=Below.trans HSrg.out hb4
     have HIn4:=Lib.hid hin4
     clear hb4 hin4
     clear HSrg
     refine hK.out _ _ hS (fun _=>?_)
     clear hK K
     try simp only [pu]
     refine rg_done ?_
     refine HQrg.down _ _ ?_
     have hB:Below (w.heap.size) wr _:=hS
     clear hS HQrg Hops
     have HBo2:=Lib.hid (Below.trans HBo.out hB)
     clear hB e10 e11 e20 e21 hlp
     go_wp2_with fail
     go_roundw
     case rel => exact ⟨m+1+1,by omega,by omega,by go_num,by rw [show m+1+1-1=m+1 by omega,HTl.out,List.foldl_append];exact HIn4.out,HBo2.out⟩
     case measure => simp [intOf];omega
    ·
     obtain rfl:j=P.length:=by omega
     have hlS:(segL P).length=P.length-1:=by unfold segL;rw [List.length_map,List.length_range]
     have hfin:=HIn2.out
     rw [List.take_of_length_le (by omega),← HS1.out,← List.foldl_append,← HTk2.out] at hfin
     have HF:=Lib.hid hfin
     clear hfin hlS
     go_wp2_with fail
     go_roundw
     case rel => exact ⟨k+1,by omega,by go_num,HF.out,Below.trans HBw.out HBo.out⟩
     case measure => simp [intOf];omega
  ·
   obtain rfl:k=X.length:=by omega
   have hfin:=HIn.out
   rw [List.take_length,HRr.out] at hfin
   have HF:=Lib.hid hfin
   clear hfin
   go_wp2_with fail
   exact bodyPost_end (v:=.tuple #[]) (results_none rfl _ _ _) rfl ⟨rfl,HF.out,HBw.out⟩

end Go.Proofs.YtialfdomhoojiaaGreat
