import Derived.Test.YtnhdmghgjngcaaaGreatJ10
import Derived.Test.YtnhdmghgjngcaaaGreatJ08
set_option linter.unusedSimpArgs false
set_option linter.unusedVariables false
namespace Go.Proofs.YtnhdmghgjngcaaaGreat
open Go.RowKit

theorem bef_line {p q:Pt} {dx dy:Int} (hN:0<8388608*dy+dx) (e:(q.x-p.x)*dy=(q.y-p.y)*dx) :
  (0≤dx→(bef p q=true↔hY p<hY q))∧(dx<0→(bef p q=true↔hY q<hY p)):=by
 have k:(8388608*(q.y-p.y)+(q.x-p.x))*dx=(q.x-p.x)*(8388608*dy+dx):=by grind
 have hd:hY q-hY p=8388608*(q.y-p.y)+(q.x-p.x):=by unfold hY;omega
 rw [← hd] at k
 have z:q.x-p.x=0→dx≠0→q.y-p.y=0:=fun h0 h1=>by
  rw [h0,Int.zero_mul] at e
  rcases Int.mul_eq_zero.1 e.symm with h2 | h2
  · exact h2
  · exact absurd h2 h1
 rw [bef_iff]
 generalize 8388608*dy+dx=N at *
 generalize hu:q.x-p.x=u at *
 have s1:0<u→0<u*N:=fun h=>Int.mul_pos h hN
 have s2:u<0→u*N<0:=fun h=>Int.mul_neg_of_neg_of_pos h hN
 have s3:u=0→u*N=0:=fun h=>by rw [h,Int.zero_mul]
 refine ⟨fun h=>?_,fun h=>?_⟩
 ·
  by_cases h0:dx=0
  ·
   subst h0
   have hu0:u=0:=by
    rcases Int.lt_trichotomy u 0 with g | g | g
    · have:=s2 g;omega
    · exact g
    · have:=s1 g;omega
   unfold hY at *
   omega
  ·
   have hp:0<dx:=by omega
   have t1:0<hY q-hY p→0<(hY q-hY p)*dx:=fun h=>Int.mul_pos h hp
   have t2:hY q-hY p<0→(hY q-hY p)*dx<0:=fun h=>Int.mul_neg_of_neg_of_pos h hp
   have t3:hY q-hY p=0→(hY q-hY p)*dx=0:=fun h=>by rw [h,Int.zero_mul]
   omega
 ·
  have t1:0<hY q-hY p→(hY q-hY p)*dx<0:=fun g=>Int.mul_neg_of_pos_of_neg g h
  have t2:hY q-hY p<0→0<(hY q-hY p)*dx:=fun g=>Int.mul_pos_of_neg_of_neg g h
  have t3:hY q-hY p=0→(hY q-hY p)*dx=0:=fun h=>by rw [h,Int.zero_mul]
  omega
theorem two_of {X Y:Pt} (h:bef X Y=true):(if X=Y then (1:Int) else if bef X Y then 2 else 0)=2:=by
 rw [if_neg (fun e=>by rw [e,bef_irr] at h;cases h),if_pos h]
theorem over_up {a b s t:Pt} (hab:hY a<hY b) (hst:hY s<hY t) (h1:tw a b s=0) (h2:tw a b t=0) (h3:hY s<hY b) (h4:hY a<hY t):sharedS a b s t=2:=by
 have hN:0<8388608*(b.y-a.y)+(b.x-a.x):=by unfold hY at hab;omega
 have ln:∀ {p q:Pt},tw a b p=0→tw a b q=0→(q.x-p.x)*(b.y-a.y)=(q.y-p.y)*(b.x-a.x):=by
  intro p q hp hq
  have:tw a b q-tw a b p=(b.x-a.x)*(q.y-p.y)-(b.y-a.y)*(q.x-p.x):=by unfold tw;grind
  rw [hp,hq] at this
  rw [Int.mul_comm (q.x-p.x),Int.mul_comm (q.y-p.y)]
  omega
 have B:∀ {p q:Pt},tw a b p=0→tw a b q=0→_:=fun hp hq=>bef_line hN (ln hp hq)
 have ha:=tw_aba a b;have hb:=tw_abb a b
 have Bba:=B hb ha;have Bts:=B h2 h1;have Bsa:=B h1 ha;have Btb:=B h2 hb
 have Bab:=B ha hb;have Bat:=B ha h2;have Bsb:=B h1 hb;have Bst:=B h1 h2
 have Bta:=B h2 ha;have Bbs:=B hb h1
 rw [sharedS_def]
 by_cases hx:0≤b.x-a.x
 ·
  have e1:bef b a=false:=by rw [← Bool.not_eq_true,Bba.1 hx];omega
  have e2:bef t s=false:=by rw [← Bool.not_eq_true,Bts.1 hx];omega
  have l1:lo a b=a:=by unfold lo;rw [e1];simp
  have l2:hi a b=b:=by unfold hi;rw [e1];simp
  have l3:lo s t=s:=by unfold lo;rw [e2];simp
  have l4:hi s t=t:=by unfold hi;rw [e2];simp
  rw [l1,l2,l3,l4]
  unfold hi lo
  refine two_of ?_
  cases e3:bef s a<;>cases e4:bef t b<;>simp only [Bool.false_eq_true,if_true,if_false]
  · exact (Bsb.1 hx).2 h3
  · exact (Bst.1 hx).2 hst
  · exact (Bab.1 hx).2 hab
  · exact (Bat.1 hx).2 h4
 ·
  have hx:b.x-a.x<0:=by omega
  have e1:bef b a=true:=(Bba.2 hx).2 hab
  have e2:bef t s=true:=(Bts.2 hx).2 hst
  have l1:lo a b=b:=by unfold lo;rw [e1];simp
  have l2:hi a b=a:=by unfold hi;rw [e1];simp
  have l3:lo s t=t:=by unfold lo;rw [e2];simp
  have l4:hi s t=s:=by unfold hi;rw [e2];simp
  rw [l1,l2,l3,l4]
  unfold hi lo
  refine two_of ?_
  cases e3:bef t b<;>cases e4:bef s a<;>simp only [Bool.false_eq_true,if_true,if_false]
  · exact (Bta.2 hx).2 h4
  · exact (Bts.2 hx).2 hst
  · exact (Bba.2 hx).2 hab
  · exact (Bbs.2 hx).2 h3
theorem tw_line {a b s t:Pt} (hab:a≠b) (h1:tw a b s=0) (h2:tw a b t=0):tw s t a=0∧tw s t b=0:=by
 have hne:=Pt.sub_ne hab
 unfold tw at *
 have e1:(b.x-a.x)*(t.y-s.y)-(b.y-a.y)*(t.x-s.x)=0:=by grind
 have e2:(b.x-a.x)*(a.y-s.y)-(b.y-a.y)*(a.x-s.x)=0:=by grind
 have e3:(b.x-a.x)*(b.y-s.y)-(b.y-a.y)*(b.x-s.x)=0:=by grind
 exact ⟨parallel hne e1 e2,parallel hne e1 e3⟩
theorem over_two {a b s t u v x y:Pt} (hu:(u=a∧v=b)∨(u=b∧v=a)) (hx:(x=s∧y=t)∨(x=t∧y=s))
  (hab:hY a<hY b) (hst:hY s<hY t) (h1:tw a b s=0) (h2:tw a b t=0) (h3:hY s<hY b) (h4:hY a<hY t):rmeetN u v x y=2:=by
 have hs:=over_up hab hst h1 h2 h3 h4
 have hne:a≠b:=fun e=>by rw [e] at hab;omega
 obtain ⟨h5,h6⟩:=tw_line hne h1 h2
 have f1:∀ a b c:Pt,tw b a c=-tw a b c:=fun a b c=>by unfold tw;grind
 have hs':sharedS u v x y=2:=by
  have c1:sharedS b a s t=2:=by rw [← sharedS_flip];exact hs
  have c2:sharedS a b t s=2:=by rw [sharedS_comm,sharedS_flip,sharedS_comm];exact hs
  have c3:sharedS b a t s=2:=by rw [sharedS_comm,sharedS_flip,sharedS_comm];exact c1
  rcases hu with ⟨rfl,rfl⟩ | ⟨rfl,rfl⟩<;>rcases hx with ⟨rfl,rfl⟩ | ⟨rfl,rfl⟩<;>assumption
 have huv:u≠v:=by
  rcases hu with ⟨rfl,rfl⟩ | ⟨rfl,rfl⟩
  · exact hne
  · exact fun e=>hne e.symm
 have z1:tw u v x=0∧tw u v y=0:=by
  rcases hu with ⟨rfl,rfl⟩ | ⟨rfl,rfl⟩<;>rcases hx with ⟨rfl,rfl⟩ | ⟨rfl,rfl⟩<;>first | exact ⟨h1,h2⟩ | exact ⟨h2,h1⟩ | (constructor<;>rw [f1]<;>omega)
 obtain ⟨z2,z3⟩:=tw_line huv z1.1 z1.2
 have q1:crossS u v x y=0:=by rw [cross_d];omega
 have q2:crossS u v u x=0:=z1.1
 have q3:crossS u v u y=0:=z1.2
 have q4:crossS x y x u=0:=z2
 have q5:crossS x y x v=0:=z3
 unfold rmeetN
 rw [if_neg (fun e=>huv e.1),if_pos q1,if_pos ⟨q2,q3,q4,q5⟩]
 exact hs'
theorem dX_zero {a b s t:Pt} (na:near1 a=true) (nb:near1 b=true) (ns:near1 s=true) (nt:near1 t=true) (hab:hY a<hY b) (hst:hY s<hY t)
  (hno:a≠s→a≠t→b≠s→b≠t→NMt a b s t) {τ:Int} (h1:2*hY s<τ) (h2:τ<2*hY t) (h3:2*hY a<τ) (h4:τ<2*hY b)
  (h0:dX a b s t τ=0):tw a b s=0∧tw a b t=0:=by
 have l1:=dX_lin a b s t (2*hY s) τ (2*hY t)
 have l2:=dX_lin a b s t (2*hY a) τ (2*hY b)
 rw [h0,Int.zero_mul,dX_s,dX_t] at l1
 rw [h0,Int.zero_mul,dX_a,dX_b] at l2
 have k1:tw a b s*(2*hY t-τ)+tw a b t*(τ-2*hY s)=0:=by
  have:(16777216*(hY t-hY s))*(tw a b s*(2*hY t-τ)+tw a b t*(τ-2*hY s))=0:=by
   rw [Int.mul_add,← Int.mul_assoc,← Int.mul_assoc];exact l1.symm
  rcases Int.mul_eq_zero.1 this with g | g
  · omega
  · exact g
 have k2:tw s t a*(2*hY b-τ)+tw s t b*(τ-2*hY a)=0:=by
  have:(16777216*(hY b-hY a))*(tw s t a*(2*hY b-τ)+tw s t b*(τ-2*hY a))=0:=by
   rw [Int.mul_add,← Int.mul_assoc,← Int.mul_assoc]
   rw [Int.neg_mul,Int.neg_mul] at l2
   omega
  rcases Int.mul_eq_zero.1 this with g | g
  · omega
  · exact g
 have sg:∀ {u v p q:Int},0<p→0<q→u*p+v*q=0→(u≤0∧0≤v∧(u=0↔v=0))∨(0≤u∧v≤0∧(u=0↔v=0)):=by
  intro u v p q hp hq e
  have a1:0<u→0<u*p:=fun h=>Int.mul_pos h hp
  have a2:u<0→u*p<0:=fun h=>Int.mul_neg_of_neg_of_pos h hp
  have a3:0<v→0<v*q:=fun h=>Int.mul_pos h hq
  have a4:v<0→v*q<0:=fun h=>Int.mul_neg_of_neg_of_pos h hq
  have a5:u=0→u*p=0:=fun h=>by rw [h,Int.zero_mul]
  have a6:v=0→v*q=0:=fun h=>by rw [h,Int.zero_mul]
  omega
 have g1:=sg (show 0<2*hY t-τ by omega) (show 0<τ-2*hY s by omega) k1
 have g2:=sg (show 0<2*hY b-τ by omega) (show 0<τ-2*hY a by omega) k2
 have d:=tw_d a b s t
 by_cases hp:tw a b t-tw a b s=0
 · omega
 ·
  by_cases c1:a=s
  ·
   subst c1
   have:=tw_aba a b
   omega
  by_cases c2:b=t
  ·
   subst c2
   have:=tw_abb a b
   omega
  have NM:=hno c1 (fun e=>by rw [e] at h3;omega) (fun e=>by rw [e] at h4;omega) c2 hp
  omega
section
variable {p:Pl} (h:Valid p)
include h
theorem Valid.seg_one {a b:Ar} (ha:a∈p.arcs) (hb:b∈p.arcs) {k m:Nat} (hk:k+1<(pathS p a).length) (hm:m+1<(pathS p b).length) (hne:¬ (a=b∧k=m)) :
  ¬ (rmeetN ((pathS p a).getD k pt0) ((pathS p a).getD (k+1) pt0) ((pathS p b).getD m pt0) ((pathS p b).getD (m+1) pt0)=2∧rmeetN ((pathS p b).getD m pt0) ((pathS p b).getD (m+1) pt0) ((pathS p a).getD k pt0) ((pathS p a).getD (k+1) pt0)=2):=by
 have hnear:∀ {c d:Ar} {i j:Nat},c∈p.arcs→d∈p.arcs→i+1<(pathS p c).length→j+1<(pathS p d).length→nears [(pathS p c).getD i pt0,(pathS p c).getD (i+1) pt0,(pathS p d).getD j pt0,(pathS p d).getD (j+1) pt0]=true:=fun hc hd hi hj =>
  near4 (h.pt_near hc (by omega)) (h.pt_near hc hi) (h.pt_near hd (by omega)) (h.pt_near hd hj)
 have same:∀ {a:Ar} (ha:a∈p.arcs) {i j:Nat},i<j→j+1<(pathS p a).length→rmeetN ((pathS p a).getD i pt0) ((pathS p a).getD (i+1) pt0) ((pathS p a).getD j pt0) ((pathS p a).getD (j+1) pt0)≠2:=by
  intro a ha i j hij hj
  have hap:=h.segs.2.1 a ha i j hij hj
  unfold apartS segK at hap
  simp only at hap
  unfold rmeetS at hap
  rw [if_pos (hnear ha ha (by omega) hj)] at hap
  intro e
  rw [e] at hap
  split at hap<;>exact absurd hap (by decide)
 have other:∀ {c d:Ar} {i j:Nat},c∈p.arcs→d∈p.arcs→i+1<(pathS p c).length→j+1<(pathS p d).length→joinedS p (segK p c i) (segK p d j)=true →
   rmeetN ((pathS p c).getD i pt0) ((pathS p c).getD (i+1) pt0) ((pathS p d).getD j pt0) ((pathS p d).getD (j+1) pt0)≠2:=by
  intro c d i j hc hd hi hj hjo e
  unfold joinedS segK rmeetS at hjo
  simp only at hjo
  rw [if_pos (hnear hc hd hi hj),e,if_neg (by decide)] at hjo
  exact absurd hjo (by decide)
 rintro ⟨h1,h2⟩
 by_cases hab:a=b
 ·
  subst hab
  rcases Nat.lt_trichotomy k m with hkm | hkm | hkm
  · exact same ha hkm hm h1
  · exact hne ⟨rfl,hkm⟩
  · exact same ha hkm hk h2
 ·
  have hpw:=h.segs.2.2
  obtain ⟨i,hi,rfl⟩:=List.mem_iff_getElem.1 ha
  obtain ⟨j,hj,rfl⟩:=List.mem_iff_getElem.1 hb
  rw [List.pairwise_iff_getElem] at hpw
  rcases Nat.lt_trichotomy i j with hij | hij | hij
  · exact other ha hb hk hm (hpw i j hi hj hij k hk m hm) h1
  · subst hij;exact hab rfl
  · exact other hb ha hm hk (hpw j i hj hi hij m hm k hk) h2
theorem Valid.dX_ne {c d:Ar} (hc:c∈p.arcs) (hd:d∈p.arcs) {k m:Nat} (hk:k+1<(pathS p c).length) (hm:m+1<(pathS p d).length) (hne:¬ (c=d∧k=m)) {a b s t:Pt}
  (hu:((pathS p c).getD k pt0=a∧(pathS p c).getD (k+1) pt0=b)∨((pathS p c).getD k pt0=b∧(pathS p c).getD (k+1) pt0=a))
  (hx:((pathS p d).getD m pt0=s∧(pathS p d).getD (m+1) pt0=t)∨((pathS p d).getD m pt0=t∧(pathS p d).getD (m+1) pt0=s))
  {τ:Int} (h1:2*hY s<τ) (h2:τ<2*hY t) (h3:2*hY a<τ) (h4:τ<2*hY b):dX a b s t τ≠0:=by
 intro h0
 have n1:=h.pt_near hc (k:=k) (by omega);have n2:=h.pt_near hc (k:=k+1) hk
 have n3:=h.pt_near hd (k:=m) (by omega);have n4:=h.pt_near hd (k:=m+1) hm
 have NM:=fun h1 h2 h3 h4=>h.seg_NM hc hd hk hm h1 h2 h3 h4
 have one:=h.seg_one hc hd hk hm hne
 generalize (pathS p c).getD k pt0=u at *
 generalize (pathS p c).getD (k+1) pt0=v at *
 generalize (pathS p d).getD m pt0=x at *
 generalize (pathS p d).getD (m+1) pt0=y at *
 have na:near1 a=true∧near1 b=true:=by rcases hu with ⟨rfl,rfl⟩ | ⟨rfl,rfl⟩<;>exact ⟨by assumption,by assumption⟩
 have ns:near1 s=true∧near1 t=true:=by rcases hx with ⟨rfl,rfl⟩ | ⟨rfl,rfl⟩<;>exact ⟨by assumption,by assumption⟩
 have hno:a≠s→a≠t→b≠s→b≠t→NMt a b s t:=fun g1 g2 g3 g4=>by
  rcases hu with ⟨rfl,rfl⟩ | ⟨rfl,rfl⟩<;>rcases hx with ⟨rfl,rfl⟩ | ⟨rfl,rfl⟩
  · exact NM g1 g2 g3 g4
  · exact (NM g2 g1 g4 g3).comm.flip.comm
  · exact (NM g3 g4 g1 g2).flip
  · exact (NM g4 g3 g2 g1).flip.comm.flip.comm
 have hab:hY a<hY b:=by omega
 have hst:hY s<hY t:=by omega
 obtain ⟨z1,z2⟩:=dX_zero na.1 na.2 ns.1 ns.2 hab hst hno h1 h2 h3 h4 h0
 obtain ⟨z3,z4⟩:=tw_line (fun e=>by rw [e] at hab;omega) z1 z2
 exact one ⟨over_two hu hx hab hst z1 z2 (by omega) (by omega),over_two hx hu hst hab z3 z4 (by omega) (by omega)⟩
end
end Go.Proofs.YtnhdmghgjngcaaaGreat
namespace Go.Proofs.YtnhdmghgjngcaaaGreat
open Go.RowKit

theorem sumNN {α:Type} (l:List α) (f:α→Int) (h:∀ x∈l,0≤f x):0≤(l.map f).sum:=by
 induction l with
 | nil=>exact Int.le_refl _
 | cons a l ih =>
  rw [List.map_cons,List.sum_cons]
  have:=h a List.mem_cons_self
  have:=ih fun x hx=>h x (List.mem_cons_of_mem _ hx)
  omega
theorem sumPP {α:Type} (l:List α) (f:α→Int) (h:∀ x∈l,0≤f x) (h1:∃ x∈l,0<f x):0<(l.map f).sum:=by
 induction l with
 | nil=>obtain ⟨x,hx,-⟩:=h1;cases hx
 | cons a l ih =>
  rw [List.map_cons,List.sum_cons]
  have h0:=h a List.mem_cons_self
  have h2:=sumNN l f fun x hx=>h x (List.mem_cons_of_mem _ hx)
  obtain ⟨x,hx,hp⟩:=h1
  rcases List.mem_cons.1 hx with rfl | hx
  · omega
  ·
   have:=ih (fun x hx=>h x (List.mem_cons_of_mem _ hx)) ⟨x,hx,hp⟩
   omega
theorem sumFl {α:Type} (l:List α) (f:α→List Int):(l.flatMap f).sum=(l.map fun x=>(f x).sum).sum:=by
 induction l with
 | nil=>rfl
 | cons a l ih=>rw [List.flatMap_cons,List.sum_append,ih,List.map_cons,List.sum_cons]
def beyS (L:List (Int×Int)) (t:Int):Int:=(L.map fun v=>if t<v.1 then v.2 else 0).sum
def beyE (L:List (Int×Int)) (t:Int):Int:=(L.map fun v=>if t≤v.1 then v.2 else 0).sum
theorem cake_win {L:List (Int×Int)} (h2:∀ u∈L,u.2≠0→(beyS L u.1=0∧beyE L u.1=1)∨(beyS L u.1=1∧beyE L u.1=0)) :
  ∀ (n:Nat) (t:Int),(∀ v∈L,v.2≠0→v.1≤t+n)→beyS L t=0∨beyS L t=1
 | 0,t,h=>by
  left
  refine sumZ _ _ fun v hv=>?_
  by_cases h0:v.2=0
  · rw [h0];split<;>rfl
  ·
   have:=h v hv h0
   rw [if_neg (by omega)]
 | n+1,t,h=>by
  by_cases hx:∃ v∈L,v.2≠0∧v.1=t+1
  ·
   obtain ⟨u,hu,h0,e⟩:=hx
   have:beyS L t=beyE L u.1:=by
    refine sumC _ _ _ fun v _=>?_
    rw [e]
    by_cases c:t<v.1
    · rw [if_pos c,if_pos (by omega)]
    · rw [if_neg c,if_neg (by omega)]
   have:=h2 u hu h0
   omega
  ·
   have e:beyS L t=beyS L (t+1):=by
    refine sumC _ _ _ fun v hv=>?_
    by_cases h0:v.2=0
    · rw [h0];split<;>split<;>rfl
    ·
     have:v.1≠t+1:=fun e=>hx ⟨v,hv,h0,e⟩
     by_cases c:t<v.1
     · rw [if_pos c,if_pos (by omega)]
     · rw [if_neg c,if_neg (by omega)]
   rw [e]
   refine cake_win h2 n (t+1) fun v hv h0=>?_
   have:=h v hv h0
   omega
theorem pos_bd:∀ (L:List (Int×Int)),∃ B:Nat,∀ v∈L,-(B:Int)<v.1∧v.1<B
 | []=>⟨0,fun _ h=>by cases h⟩
 | a::L=>by
  obtain ⟨B,hB⟩:=pos_bd L
  refine ⟨B+a.1.natAbs+1,fun v hv=>?_⟩
  rcases List.mem_cons.1 hv with rfl | hv
  · omega
  ·
   have:=hB v hv
   omega
theorem cnt_lt (n m:Nat) (h:m≤n):((List.range n).map fun k:Nat=>if (k:Int)<m then (1:Int) else 0).sum=m:=by
 induction n generalizing m with
 | zero =>
  have:m=0:=by omega
  subst this
  rfl
 | succ n ih =>
  rw [List.range_succ,List.map_append,List.sum_append]
  simp only [List.map_cons,List.map_nil,List.sum_cons,List.sum_nil]
  by_cases h1:m≤n
  · rw [ih m h1,if_neg (by omega)];omega
  ·
   have hm:m=n+1:=by omega
   subst hm
   rw [if_pos (by omega)]
   have:=ih n (Nat.le_refl _)
   rw [sumC _ _ (fun k:Nat=>if (k:Int)<n then (1:Int) else 0) (fun k hk=>by
    have:=List.mem_range.1 hk
    rw [if_pos (by omega),if_pos (by omega)]),this]
   omega
theorem cake {L:List (Int×Int)} (h2:∀ u∈L,u.2≠0→(beyS L u.1=0∧beyE L u.1=1)∨(beyS L u.1=1∧beyE L u.1=0)) (h3:(L.map (·.2)).sum=0) :
  0≤(L.map fun u=>u.1*u.2).sum∧((∃ u∈L,u.2≠0)→0<(L.map fun u=>u.1*u.2).sum):=by
 obtain ⟨B,hB⟩:=pos_bd L
 have e:(L.map fun u=>u.1*u.2).sum=((List.range (2*B)).map fun k:Nat=>beyS L ((k:Int)-B)).sum:=by
  have e1:(L.map fun u=>u.1*u.2).sum=(L.map fun u=>u.1*u.2+(B:Int)*u.2).sum:=by
   rw [sumA L (fun u=>u.1*u.2) (fun u=>(B:Int)*u.2),sumM L (B:Int) (fun u=>u.2),h3,Int.mul_zero,Int.add_zero]
  rw [e1]
  unfold beyS
  rw [sumS]
  refine sumC _ _ _ fun u hu=>?_
  have hb:=hB u hu
  have c:=cnt_lt (2*B) (u.1+B).toNat (by omega)
  rw [sumC _ _ (fun k:Nat=>u.2*(if (k:Int)<(u.1+B).toNat then (1:Int) else 0)) (fun k hk=>by
   by_cases g:(k:Int)-B<u.1
   · rw [if_pos g,if_pos (by omega),Int.mul_one]
   · rw [if_neg g,if_neg (by omega),Int.mul_zero]),sumM,c,show (((u.1+B).toNat:Nat):Int)=u.1+B by omega]
  rw [← Int.add_mul,Int.mul_comm]
 have W:∀ t,beyS L t=0∨beyS L t=1:=fun t=>cake_win h2 (B+t.natAbs) t fun v hv _=>by
  have:=hB v hv
  omega
 rw [e]
 refine ⟨sumNN _ _ fun k _=>?_,fun ⟨u,hu,h0⟩=>sumPP _ _ (fun k _=>?_) ?_⟩
 · have:=W ((k:Int)-B);omega
 · have:=W ((k:Int)-B);omega
 ·
  have hb:=hB u hu
  rcases h2 u hu h0 with ⟨-,g⟩ | ⟨g,-⟩
  ·
   refine ⟨(u.1-1+B).toNat,List.mem_range.2 (by omega),?_⟩
   rw [show (((u.1-1+B).toNat:Nat):Int)-B=u.1-1 by omega]
   have:beyS L (u.1-1)=beyE L u.1:=by
    refine sumC _ _ _ fun v _=>?_
    by_cases c:u.1≤v.1
    · rw [if_pos c,if_pos (by omega)]
    · rw [if_neg c,if_neg (by omega)]
   omega
  ·
   refine ⟨(u.1+B).toNat,List.mem_range.2 (by omega),?_⟩
   rw [show (((u.1+B).toNat:Nat):Int)-B=u.1 by omega]
   omega
theorem half_sum (T:Nat) (u v:Int) (m:Nat):∀ n:Nat,((List.range n).map fun j:Nat=>if 2*(j:Int)+1-2*T<2*((m:Int)-T) then u+v*(2*(j:Int)+1-2*T) else 0).sum=u*(min n m:Nat)+v*((min n m:Nat)*(min n m:Nat)-2*T*(min n m:Nat))
 | 0=>by simp
 | n+1=>by
  rw [List.range_succ,List.map_append,List.sum_append,half_sum T u v m n]
  simp only [List.map_cons,List.map_nil,List.sum_cons,List.sum_nil,Int.add_zero]
  by_cases h:n<m
  ·
   rw [if_pos (by omega),Nat.min_eq_left (by omega),Nat.min_eq_left (by omega)]
   rw [show ((n+1:Nat):Int)=(n:Int)+1 by omega]
   grind
  · rw [if_neg (by omega),Nat.min_eq_right (by omega),Nat.min_eq_right (by omega),Int.add_zero]
def tauT (T j:Nat):Int:=2*(j:Int)+1-2*T
theorem edge_sum {T:Nat} {a b:Pt} (ha:-(T:Int)≤hY a∧hY a≤T) (hb:-(T:Int)≤hY b∧hY b≤T) :
  ((List.range (2*T)).map fun j=>sgH (tauT T j) a b*xN a b (tauT T j)).sum=(hY b-hY a)*(hY b-hY a)*(a.x+b.x):=by
 have f:∀ c:Pt,-(T:Int)≤hY c∧hY c≤T→((List.range (2*T)).map fun j=>if tauT T j<2*hY c then xN a b (tauT T j) else 0).sum=2*(a.x*hY b-b.x*hY a)*(hY c+T)+(b.x-a.x)*((hY c+T)*(hY c+T)-2*T*(hY c+T)):=by
  intro c hc
  have:=half_sum T (2*(a.x*hY b-b.x*hY a)) (b.x-a.x) (hY c+T).toNat (2*T)
  rw [Nat.min_eq_right (by omega),show (((hY c+T).toNat:Nat):Int)=hY c+T by omega] at this
  rw [← this]
  refine sumC _ _ _ fun j _=>?_
  have e:xN a b (tauT T j)=2*(a.x*hY b-b.x*hY a)+(b.x-a.x)*tauT T j:=by unfold xN;grind
  rw [e,show hY c+(T:Int)-T=hY c by omega]
  rfl
 have e:((List.range (2*T)).map fun j=>sgH (tauT T j) a b*xN a b (tauT T j)).sum=((List.range (2*T)).map fun j=>(if tauT T j<2*hY b then xN a b (tauT T j) else 0) + -(if tauT T j<2*hY a then xN a b (tauT T j) else 0)).sum:=by
  refine sumC _ _ _ fun j _=>?_
  unfold sgH
  split<;>split<;>omega
 rw [e,sumA,sumN,f b hb,f a ha]
 generalize hY a=A;generalize hY b=B
 grind
theorem wnS_mul (p:Pl) (z:Int→Int) (c:Int) (f:Pt→Pt→Int):wnS p z (fun a b=>c*f a b)=c*wnS p z f:=by
 unfold wnS stp
 rw [← sumM]
 refine sumC _ _ _ fun a _=>?_
 rw [sumM,← Int.mul_assoc,Int.mul_comm (z a.id),Int.mul_assoc]
theorem wnS_zero (p:Pl) (z:Int→Int):wnS p z (fun _ _=>0)=0:=by
 have:=wnS_mul p z 0 (fun _ _=>0)
 rw [Int.zero_mul] at this
 simpa using this
theorem wnS_list {β:Type} (p:Pl) (z:Int→Int) (f:β→Pt→Pt→Int):∀ l:List β,wnS p z (fun a b=>(l.map fun j=>f j a b).sum)=(l.map fun j=>wnS p z (f j)).sum
 | []=>wnS_zero p z
 | j::l=>by
  simp only [List.map_cons,List.sum_cons]
  rw [wnS_add p z (f j) (fun a b=>(l.map fun j=>f j a b).sum),wnS_list p z f l]
def xE (D:Int) (a b:Pt) (τ:Int):Int:=xN a b τ*(D / (hY b-hY a))
theorem xE_swap (D:Int) (a b:Pt) (τ:Int):xE D b a τ=xE D a b τ:=by
 unfold xE
 rw [xN_swap,show hY a-hY b=-(hY b-hY a) by omega,Int.ediv_neg,Int.neg_mul_neg]
theorem xE_cmp {D:Int} (hD:0<D) {a b s t:Pt} {τ:Int} (hab:hY a<hY b) (hst:hY s<hY t) (d1:hY b-hY a∣D) (d2:hY t-hY s∣D) :
  (xE D s t τ<xE D a b τ↔0<dX a b s t τ)∧(xE D s t τ=xE D a b τ↔dX a b s t τ=0):=by
 obtain ⟨q,hq⟩:=d1
 obtain ⟨r,hr⟩:=d2
 unfold xE
 have e1:D / (hY b-hY a)=q:=by rw [hq];exact Int.mul_ediv_cancel_left _ (by omega)
 have e2:D / (hY t-hY s)=r:=by rw [hr];exact Int.mul_ediv_cancel_left _ (by omega)
 rw [e1,e2]
 unfold dX
 generalize xN a b τ=X at *
 generalize xN s t τ=Y at *
 have hn:0<hY b-hY a:=by omega
 have hm:0<hY t-hY s:=by omega
 generalize hY b-hY a=n at *
 generalize hY t-hY s=m at *
 have k:(X*q-Y*r)*(n*m)=D*(X*m-Y*n):=by
  have h1:(X*q-Y*r)*(n*m)=(n*q)*(X*m)-(m*r)*(Y*n):=by grind
  rw [h1,← hq,← hr,Int.mul_sub]
 have hnm:=Int.mul_pos hn hm
 generalize n*m=w at *
 generalize X*m-Y*n=x at *
 have a1:0<X*q-Y*r→0<(X*q-Y*r)*w:=fun h=>Int.mul_pos h hnm
 have a2:X*q-Y*r<0→(X*q-Y*r)*w<0:=fun h=>Int.mul_neg_of_neg_of_pos h hnm
 have a3:X*q-Y*r=0→(X*q-Y*r)*w=0:=fun h=>by rw [h,Int.zero_mul]
 have b1:0<x→0<D*x:=fun h=>Int.mul_pos hD h
 have b2:x<0→D*x<0:=fun h=>Int.mul_neg_of_pos_of_neg hD h
 have b3:x=0→D*x=0:=fun h=>by rw [h,Int.mul_zero]
 rw [k] at a1 a2 a3
 generalize D*x=Dx at *
 generalize X*q=g1 at *
 generalize Y*r=g2 at *
 constructor<;>constructor<;>intro<;>omega
theorem div_all:∀ l:List Int,(∀ x∈l,x≠0)→∃ D,0<D∧∀ x∈l,x∣D
 | [],_=>⟨1,by omega,fun _ h=>by cases h⟩
 | a::l,h=>by
  obtain ⟨D,h1,h2⟩:=div_all l fun x hx=>h x (List.mem_cons_of_mem _ hx)
  have ha:=h a List.mem_cons_self
  refine ⟨(a.natAbs:Int)*D,Int.mul_pos (by omega) h1,fun x hx=>?_⟩
  rcases List.mem_cons.1 hx with rfl | hx
  · exact Int.dvd_trans (Int.dvd_natAbs_self) (Int.dvd_mul_right _ _)
  · exact Int.dvd_trans (h2 x hx) (Int.dvd_mul_left _ _)
def itemsT (p:Pl) (z:Int→Int) (D τ:Int):List (Int×Int):=p.arcs.flatMap fun a=>(List.range ((pathS p a).length-1)).map fun k =>
 (xE D ((pathS p a).getD k pt0) ((pathS p a).getD (k+1) pt0) τ,z a.id*sgH τ ((pathS p a).getD k pt0) ((pathS p a).getD (k+1) pt0))
theorem items_sum (p:Pl) (z:Int→Int) (D τ:Int) (G:Int→Int→Int) (hG:∀ x c s,G x (c*s)=c*G x s) :
  ((itemsT p z D τ).map fun u=>G u.1 u.2).sum=wnS p z (fun a b=>G (xE D a b τ) (sgH τ a b)):=by
 unfold itemsT wnS stp
 rw [List.map_flatMap,sumFl]
 refine sumC _ _ _ fun a _=>?_
 rw [List.map_map,← sumM]
 refine sumC _ _ _ fun k _=>?_
 exact hG _ _ _
section
variable {p:Pl} (h:Valid p)
include h
theorem Valid.side_all {z:Int→Int} (hz:ClosedC p z) {a:Ar} (ha:a∈p.arcs) {m:Nat} (hm:m+1<(pathS p a).length) :
  rtW p z ((pathS p a).getD m pt0) ((pathS p a).getD (m+1) pt0)=Hz p z (-a.id)∧rtW p z ((pathS p a).getD (m+1) pt0) ((pathS p a).getD m pt0)=Hz p z a.id:=by
 have hl:=pathS_length p a
 have hid:=(h.id_pos ha).1
 have s0:=h.side_seg hz ha hm
 have s1:=h.side_path hz ha m hm
 have s2:=h.side_path hz ha a.via.length (by omega)
 have hp:=h.Hz_pos hz ha
 have h2:(pathS p a).getD (a.via.length+1) pt0=nodeAt p a.dst:=by
  have:=path_end p a
  rwa [hl,show a.via.length+2-1=a.via.length+1 by omega] at this
 have hn:Hz p z (-a.id)=ltW p z ((pathS p a).getD (a.via.length+1) pt0) ((pathS p a).getD a.via.length pt0):=by
  unfold Hz
  rw [h.start_neg ha,h.to_neg ha,h2]
 have j2:ltW p z ((pathS p a).getD (m+1) pt0) ((pathS p a).getD m pt0)-rtW p z ((pathS p a).getD (m+1) pt0) ((pathS p a).getD m pt0)=-z a.id:=by
  by_cases h0:m+1=(pathS p a).length-1
  ·
   obtain ⟨n,hn,e1,e2⟩:=h.sound.at_dst ha
   have:=h.jump_node hz hn (d:=-a.id) (mem_dartL.2 ⟨a,ha,.inr ⟨rfl,e1.symm⟩⟩)
   rw [h.to_neg ha,show a.via.length=m by omega] at this
   rw [h0,path_end,e2,this]
   unfold zD;rw [if_neg (by omega),Int.neg_neg]
  · exact h.jump_prev z ha (by omega)
 omega
theorem Valid.one_seg {z:Int→Int} {a:Ar} (ha:a∈p.arcs) {m:Nat} (hm:m+1<(pathS p a).length) {f:Pt→Pt→Int}
  (h0:∀ c∈p.arcs,z c.id≠0→∀ k,k+1<(pathS p c).length→¬ (c=a∧k=m)→f ((pathS p c).getD k pt0) ((pathS p c).getD (k+1) pt0)=0) :
  wnS p z f=z a.id*f ((pathS p a).getD m pt0) ((pathS p a).getD (m+1) pt0):=by
 unfold wnS stp
 have:=sumH p.arcs (·.id) h.sound.arcs (fun _=>z a.id*f ((pathS p a).getD m pt0) ((pathS p a).getD (m+1) pt0)) a.id ⟨a,ha,rfl⟩
 rw [← this]
 refine sumC _ _ _ fun c hc=>?_
 by_cases hz0:z c.id=0
 ·
  rw [hz0,Int.zero_mul]
  by_cases e:a.id=c.id
  · rw [if_pos e,e,hz0,Int.zero_mul]
  · rw [if_neg e]
 by_cases e:a.id=c.id
 ·
  have:=h.arc_eq ha hc e
  subst this
  rw [if_pos rfl,sumOne _ m (fun k=>f ((pathS p a).getD k pt0) ((pathS p a).getD (k+1) pt0)) (fun k hk hne=>h0 a ha hz0 k (by omega) (fun e=>hne e.2)),if_pos (by omega)]
 · rw [if_neg e,sumZ _ _ (fun k hk=>h0 c hc hz0 k (by have:=List.mem_range.1 hk;omega) (fun e2=>e (by rw [e2.1]))),Int.mul_zero]
def FreeT (p:Pl) (z:Int→Int) (τ:Int):Prop:=∀ a∈p.arcs,z a.id≠0→∀ k,k<(pathS p a).length→2*hY ((pathS p a).getD k pt0)≠τ
omit h in
theorem FreeT.odd (z:Int→Int) {τ:Int} (hτ:τ % 2=1):FreeT p z τ:=fun a _ _ k _=>by omega
omit h in
theorem wnS_congrZ {z:Int→Int} {f g:Pt→Pt→Int} (h:∀ a∈p.arcs,z a.id≠0→∀ k,k+1<(pathS p a).length→f ((pathS p a).getD k pt0) ((pathS p a).getD (k+1) pt0)=g ((pathS p a).getD k pt0) ((pathS p a).getD (k+1) pt0)):wnS p z f=wnS p z g:=by
 unfold wnS stp
 refine sumC _ _ _ fun a ha=>?_
 by_cases h0:z a.id=0
 · rw [h0,Int.zero_mul,Int.zero_mul]
 · rw [sumC _ _ (fun k=>g ((pathS p a).getD k pt0) ((pathS p a).getD (k+1) pt0)) (fun k hk=>h a ha h0 k (by have:=List.mem_range.1 hk;omega))]
theorem Valid.beyond {z:Int→Int} (hz:ClosedC p z) {D:Int} (hD:0<D) (hd:∀ a∈p.arcs,∀ k,k+1<(pathS p a).length→hY ((pathS p a).getD (k+1) pt0)-hY ((pathS p a).getD k pt0)∣D)
  {τ:Int} (hτ:FreeT p z τ) {c:Ar} (hc:c∈p.arcs) {m:Nat} (hm:m+1<(pathS p c).length) {s t:Pt}
  (he:(s=(pathS p c).getD m pt0∧t=(pathS p c).getD (m+1) pt0)∨(t=(pathS p c).getD m pt0∧s=(pathS p c).getD (m+1) pt0)) (h1:2*hY s<τ) (h2:τ<2*hY t) :
  wnS p z (fun a b=>if xE D s t τ<xE D a b τ then sgH τ a b else 0)=rtW p z s t:=by
 have ht:=h.tele hz (fun v=>-wR s t τ v)
 have e:wnS p z (fun a b=>if xE D s t τ<xE D a b τ then sgH τ a b else 0)=wnS p z (fun a b=>rtF s t a b+(-wR s t τ b - -wR s t τ a)):=by
  refine wnS_congrZ fun a ha hza k hk=>?_
  have na:=h.pt_near ha (k:=k) (by omega);have nb:=h.pt_near ha (k:=k+1) hk
  have n1:=h.pt_near hc (k:=m) (by omega);have n2:=h.pt_near hc (k:=m+1) hm
  have hne:=(h.distinct ha hk).1
  have NM:=fun h1 h2 h3 h4=>h.seg_NM ha hc hk hm h1 h2 h3 h4
  have da:=hd a ha k hk
  have fx:=hτ a ha hza k (by omega)
  have fy:=hτ a ha hza (k+1) hk
  have dc:=hd c hc m hm
  generalize (pathS p a).getD k pt0=x at *
  generalize (pathS p a).getD (k+1) pt0=y at *
  generalize (pathS p c).getD m pt0=e at *
  generalize (pathS p c).getD (m+1) pt0=f at *
  have ns:near1 s=true:=by rcases he with ⟨rfl,-⟩ | ⟨-,rfl⟩<;>assumption
  have nt:near1 t=true:=by rcases he with ⟨-,rfl⟩ | ⟨rfl,-⟩<;>assumption
  have dst:hY t-hY s∣D:=by
   rcases he with ⟨rfl,rfl⟩ | ⟨rfl,rfl⟩
   · exact dc
   · rw [show hY t-hY s=-(hY s-hY t) by omega];exact Int.neg_dvd.2 dc
  have NM2:x≠s→x≠t→y≠s→y≠t→NMt x y s t:=fun h1 h2 h3 h4=>by
   rcases he with ⟨rfl,rfl⟩ | ⟨rfl,rfl⟩
   · exact NM h1 h2 h3 h4
   · exact (NM h2 h1 h4 h3).comm.flip.comm
  have hst:hY s<hY t:=by omega
  have up:∀ {a b:Pt},2*hY a≠τ→2*hY b≠τ→near1 a=true→near1 b=true→hY a<hY b→hY b-hY a∣D→(a≠s→a≠t→b≠s→b≠t→NMt a b s t) →
    (if xE D s t τ<xE D a b τ then sgH τ a b else 0)=rtF s t a b+(-wR s t τ b - -wR s t τ a):=by
   intro a b fa fb na nb hab da NM
   have e:=edge_mid na nb ns nt hab hst NM fa fb h1 h2
   have k:=(xE_cmp (τ:=τ) hD hab hst da dst).1
   have e2:rtF s t a b+(-wR s t τ b - -wR s t τ a)=rtF s t a b+(wR s t τ a-wR s t τ b):=by omega
   rw [e2,← e]
   unfold sgH
   by_cases g:0<dX a b s t τ
   ·
    rw [if_pos (k.2 g)]
    by_cases g1:2*hY a<τ<;>by_cases g2:τ<2*hY b
    · rw [if_pos g2,if_neg (by omega),if_pos ⟨g1,g2,g⟩];rfl
    · rw [if_neg g2,if_neg (by omega),if_neg (fun e=>g2 e.2.1)];rfl
    · rw [if_pos g2,if_pos (by omega),if_neg (fun e=>g1 e.1)];rfl
    · omega
   · rw [if_neg (fun e=>g (k.1 e)),if_neg (fun e=>g e.2.2)]
  rcases Int.lt_trichotomy (hY x) (hY y) with c1 | c1 | c1
  · exact up fx fy na nb c1 da NM2
  · exact absurd (hY_inj na nb c1) hne
  ·
   have:=up fy fx nb na c1 (by rw [show hY x-hY y=-(hY y-hY x) by omega];exact Int.neg_dvd.2 da) (fun h1 h2 h3 h4=>(NM2 h3 h4 h1 h2).flip)
   rw [xE_swap D x y τ,rtF_neg s t x y] at this
   have e3:sgH τ y x=-sgH τ x y:=by unfold sgH;omega
   rw [e3] at this
   split at this<;>split<;>first | omega | contradiction
 rw [e,wnS_add p z (rtF s t) (fun a b=>-wR s t τ b - -wR s t τ a),ht,Int.add_zero]
 rfl
end
end Go.Proofs.YtnhdmghgjngcaaaGreat
namespace Go.Proofs.YtnhdmghgjngcaaaGreat
open Go.RowKit

theorem sg_span {τ:Int} {x y:Pt} (hx:2*hY x≠τ) (hy:2*hY y≠τ) (h0:sgH τ x y≠0):(2*hY x<τ∧τ<2*hY y∧sgH τ x y=1)∨(2*hY y<τ∧τ<2*hY x∧sgH τ x y=-1):=by
 unfold sgH at *
 by_cases c1:τ<2*hY y<;>by_cases c2:τ<2*hY x
 · exact absurd (by rw [if_pos c1,if_pos c2];rfl) h0
 · exact .inl ⟨by omega,c1,by rw [if_pos c1,if_neg c2];rfl⟩
 · exact .inr ⟨by omega,c2,by rw [if_neg c1,if_pos c2];rfl⟩
 · exact absurd (by rw [if_neg c1,if_neg c2];rfl) h0
section
variable {p:Pl} (h:Valid p)
include h
theorem Valid.xE_ne {D:Int} (hD:0<D) (hd:∀ a∈p.arcs,∀ k,k+1<(pathS p a).length→hY ((pathS p a).getD (k+1) pt0)-hY ((pathS p a).getD k pt0)∣D)
  {τ:Int} {z:Int→Int} (hτ:FreeT p z τ) {c d:Ar} (hc:c∈p.arcs) (hzc:z c.id≠0) (hd':d∈p.arcs) (hzd:z d.id≠0) {k m:Nat} (hk:k+1<(pathS p c).length) (hm:m+1<(pathS p d).length) (hne:¬ (c=d∧k=m))
  (h1:sgH τ ((pathS p c).getD k pt0) ((pathS p c).getD (k+1) pt0)≠0) (h2:sgH τ ((pathS p d).getD m pt0) ((pathS p d).getD (m+1) pt0)≠0) :
  xE D ((pathS p d).getD m pt0) ((pathS p d).getD (m+1) pt0) τ≠xE D ((pathS p c).getD k pt0) ((pathS p c).getD (k+1) pt0) τ:=by
 have dc:=hd c hc k hk
 have dd:=hd d hd' m hm
 have N:=fun a b s t=>h.dX_ne (a:=a) (b:=b) (s:=s) (t:=t) hc hd' hk hm hne
 have s1:=sg_span (hτ c hc hzc k (by omega)) (hτ c hc hzc (k+1) hk) h1
 have s2:=sg_span (hτ d hd' hzd m (by omega)) (hτ d hd' hzd (m+1) hm) h2
 generalize (pathS p c).getD k pt0=u at *
 generalize (pathS p c).getD (k+1) pt0=v at *
 generalize (pathS p d).getD m pt0=x at *
 generalize (pathS p d).getD (m+1) pt0=y at *
 have dc':hY u-hY v∣D:=by rw [show hY u-hY v=-(hY v-hY u) by omega];exact Int.neg_dvd.2 dc
 have dd':hY x-hY y∣D:=by rw [show hY x-hY y=-(hY y-hY x) by omega];exact Int.neg_dvd.2 dd
 intro e
 rcases s1 with ⟨a1,a2,-⟩ | ⟨a1,a2,-⟩<;>rcases s2 with ⟨b1,b2,-⟩ | ⟨b1,b2,-⟩
 · exact N u v x y (.inl ⟨rfl,rfl⟩) (.inl ⟨rfl,rfl⟩) b1 b2 a1 a2 ((xE_cmp hD (by omega) (by omega) dc dd).2.1 e)
 · exact N u v y x (.inl ⟨rfl,rfl⟩) (.inr ⟨rfl,rfl⟩) b1 b2 a1 a2 ((xE_cmp hD (by omega) (by omega) dc dd').2.1 (by rw [xE_swap];exact e))
 · exact N v u x y (.inr ⟨rfl,rfl⟩) (.inl ⟨rfl,rfl⟩) b1 b2 a1 a2 ((xE_cmp hD (by omega) (by omega) dc' dd).2.1 (by rw [xE_swap D u v];exact e))
 · exact N v u y x (.inr ⟨rfl,rfl⟩) (.inr ⟨rfl,rfl⟩) b1 b2 a1 a2 ((xE_cmp hD (by omega) (by omega) dc' dd').2.1 (by rw [xE_swap,xE_swap D u v];exact e))
theorem Valid.bey_seg {z:Int→Int} (hz:ClosedC p z) {D:Int} (hD:0<D) (hd:∀ a∈p.arcs,∀ k,k+1<(pathS p a).length→hY ((pathS p a).getD (k+1) pt0)-hY ((pathS p a).getD k pt0)∣D) {τ:Int} (hτ:FreeT p z τ)
  {a:Ar} (ha:a∈p.arcs) {k:Nat} (hk:k+1<(pathS p a).length) (hs:(2*hY ((pathS p a).getD k pt0)<τ∧τ<2*hY ((pathS p a).getD (k+1) pt0))∨(2*hY ((pathS p a).getD (k+1) pt0)<τ∧τ<2*hY ((pathS p a).getD k pt0))) :
  beyS (itemsT p z D τ) (xE D ((pathS p a).getD k pt0) ((pathS p a).getD (k+1) pt0) τ)=(if hY ((pathS p a).getD k pt0)<hY ((pathS p a).getD (k+1) pt0) then Hz p z (-a.id) else Hz p z a.id) ∧
  (z a.id≠0→beyE (itemsT p z D τ) (xE D ((pathS p a).getD k pt0) ((pathS p a).getD (k+1) pt0) τ)=(if hY ((pathS p a).getD k pt0)<hY ((pathS p a).getD (k+1) pt0) then Hz p z a.id else Hz p z (-a.id))):=by
 have hp:=h.Hz_pos hz ha
 obtain ⟨r1,r2⟩:=h.side_all hz ha hk
 have own:=fun (hz0:z a.id≠0) (hs0:sgH τ ((pathS p a).getD k pt0) ((pathS p a).getD (k+1) pt0)≠0)=>h.one_seg (z:=z) ha hk (f:=fun x y=>if xE D ((pathS p a).getD k pt0) ((pathS p a).getD (k+1) pt0) τ=xE D x y τ then sgH τ x y else 0) (fun c hc hzc m hm hne=>by
  by_cases g:sgH τ ((pathS p c).getD m pt0) ((pathS p c).getD (m+1) pt0)=0
  · rw [g];split<;>rfl
  · exact if_neg (h.xE_ne hD hd hτ hc hzc ha hz0 hm hk hne g hs0))
 rw [if_pos rfl] at own
 have by1:=h.beyond hz hD hd hτ ha hk (s:=(pathS p a).getD k pt0) (t:=(pathS p a).getD (k+1) pt0) (.inl ⟨rfl,rfl⟩)
 have by2:=h.beyond hz hD hd hτ ha hk (t:=(pathS p a).getD k pt0) (s:=(pathS p a).getD (k+1) pt0) (.inr ⟨rfl,rfl⟩)
 rw [xE_swap D ((pathS p a).getD k pt0)] at by2
 rw [r1] at by1
 rw [r2] at by2
 have sg:sgH τ ((pathS p a).getD k pt0) ((pathS p a).getD (k+1) pt0)=if hY ((pathS p a).getD k pt0)<hY ((pathS p a).getD (k+1) pt0) then 1 else -1:=by
  unfold sgH
  rcases hs with ⟨g1,g2⟩ | ⟨g1,g2⟩
  · rw [if_pos g2,if_neg (by omega),if_pos (by omega)];rfl
  · rw [if_neg (by omega),if_pos g2,if_neg (by omega)];rfl
 generalize xE D ((pathS p a).getD k pt0) ((pathS p a).getD (k+1) pt0) τ=X at *
 have bS:beyS (itemsT p z D τ) X=wnS p z (fun a b=>if X<xE D a b τ then sgH τ a b else 0) :=
  items_sum p z D τ (fun x s=>if X<x then s else 0) (fun x c s=>by split<;>simp)
 have bE:beyE (itemsT p z D τ) X=wnS p z (fun a b=>if X<xE D a b τ then sgH τ a b else 0)+wnS p z (fun a b=>if X=xE D a b τ then sgH τ a b else 0):=by
  rw [← wnS_add]
  have:=items_sum p z D τ (fun x s=>if X≤x then s else 0) (fun x c s=>by split<;>simp)
  refine this.trans (wnS_congr fun c _ m _=>?_)
  rcases Int.lt_trichotomy X (xE D ((pathS p c).getD m pt0) ((pathS p c).getD (m+1) pt0) τ) with g | g | g
  · rw [if_pos (by omega),if_pos g,if_neg (by omega)];omega
  · rw [if_pos (by omega),if_neg (by omega),if_pos g];omega
  · rw [if_neg (by omega),if_neg (by omega),if_neg (by omega)];rfl
 rw [bS]
 have own':=fun hz0=>own hz0 (by rw [sg];split<;>omega)
 rcases hs with ⟨g1,g2⟩ | ⟨g1,g2⟩
 ·
  rw [if_pos (by omega)] at sg ⊢
  rw [if_pos (by omega)]
  refine ⟨by1 g1 g2,fun hz0=>?_⟩
  rw [bE,own' hz0,by1 g1 g2,sg]
  omega
 ·
  rw [if_neg (by omega)] at sg ⊢
  rw [if_neg (by omega)]
  refine ⟨by2 g1 g2,fun hz0=>?_⟩
  rw [bE,own' hz0,by2 g1 g2,sg]
  omega
theorem Valid.items_zero {z:Int→Int} (hz:ClosedC p z) (D τ:Int):((itemsT p z D τ).map (·.2)).sum=0:=by
 rw [items_sum p z D τ (fun _ s=>s) (fun _ _ _=>rfl)]
 exact h.tele hz (fun v=>if τ<2*hY v then 1 else 0)
theorem Valid.items_ok {z:Int→Int} (hz:ClosedC p z) (hw:∀ a∈p.arcs,z a.id≠0→(Hz p z (-a.id)=0∧Hz p z a.id=1)∨(Hz p z (-a.id)=1∧Hz p z a.id=0))
  {D:Int} (hD:0<D) (hd:∀ a∈p.arcs,∀ k,k+1<(pathS p a).length→hY ((pathS p a).getD (k+1) pt0)-hY ((pathS p a).getD k pt0)∣D) {τ:Int} (hτ:FreeT p z τ) :
  ∀ u∈itemsT p z D τ,u.2≠0→(beyS (itemsT p z D τ) u.1=0∧beyE (itemsT p z D τ) u.1=1)∨(beyS (itemsT p z D τ) u.1=1∧beyE (itemsT p z D τ) u.1=0):=by
 intro u hu hu0
 obtain ⟨a,ha,hu⟩:=List.mem_flatMap.1 hu
 obtain ⟨k,hk,rfl⟩:=List.mem_map.1 hu
 have hk:=List.mem_range.1 hk
 have hk:k+1<(pathS p a).length:=by omega
 simp only at hu0 ⊢
 have hz0:z a.id≠0:=fun e=>hu0 (by rw [e,Int.zero_mul])
 have hs0:sgH τ ((pathS p a).getD k pt0) ((pathS p a).getD (k+1) pt0)≠0:=fun e=>hu0 (by rw [e,Int.mul_zero])
 have hW:=hw a ha hz0
 have hsp:=sg_span (hτ a ha hz0 k (by omega)) (hτ a ha hz0 (k+1) hk) hs0
 obtain ⟨b1,b2⟩:=h.bey_seg hz hD hd hτ ha hk (by
  rcases hsp with ⟨g1,g2,-⟩ | ⟨g1,g2,-⟩
  · exact .inl ⟨g1,g2⟩
  · exact .inr ⟨g1,g2⟩)
 rw [b1,b2 hz0]
 split<;>omega
theorem Valid.slice_pos {z:Int→Int} (hz:ClosedC p z) (hw:∀ a∈p.arcs,z a.id≠0→(Hz p z (-a.id)=0∧Hz p z a.id=1)∨(Hz p z (-a.id)=1∧Hz p z a.id=0))
  {D:Int} (hD:0<D) (hd:∀ a∈p.arcs,∀ k,k+1<(pathS p a).length→hY ((pathS p a).getD (k+1) pt0)-hY ((pathS p a).getD k pt0)∣D) {τ:Int} (hτ:τ % 2=1) :
  0≤wnS p z (fun a b=>xE D a b τ*sgH τ a b)∧((∃ a∈p.arcs,∃ k,k+1<(pathS p a).length∧z a.id≠0∧sgH τ ((pathS p a).getD k pt0) ((pathS p a).getD (k+1) pt0)≠0)→0<wnS p z (fun a b=>xE D a b τ*sgH τ a b)):=by
 have e0:=items_sum p z D τ (fun x s=>x*s) (fun x c s=>by grind)
 have:=cake (h.items_ok hz hw hD hd (FreeT.odd z hτ)) (h.items_zero hz D τ)
 rw [e0] at this
 refine ⟨this.1,fun ⟨a,ha,k,hk,h4,h5⟩=>this.2 ⟨(xE D ((pathS p a).getD k pt0) ((pathS p a).getD (k+1) pt0) τ,z a.id*sgH τ ((pathS p a).getD k pt0) ((pathS p a).getD (k+1) pt0)),?_,fun e=>?_⟩⟩
 · exact List.mem_flatMap.2 ⟨a,ha,List.mem_map.2 ⟨k,List.mem_range.2 (by omega),rfl⟩⟩
 ·
  rcases Int.mul_eq_zero.1 e with e | e
  · exact h4 e
  · exact h5 e
theorem Valid.area_sum {z:Int→Int} (hz:ClosedC p z) {T:Nat} (hT:∀ q,near1 q=true→-(T:Int)≤hY q∧hY q≤T)
  {D:Int} (hd:∀ a∈p.arcs,∀ k,k+1<(pathS p a).length→hY ((pathS p a).getD (k+1) pt0)-hY ((pathS p a).getD k pt0)∣D) :
  D*(8388608*wnS p z crossG)=((List.range (2*T)).map fun j=>wnS p z (fun a b=>xE D a b (tauT T j)*sgH (tauT T j) a b)).sum:=by
 rw [← wnS_list p z (fun j a b=>xE D a b (tauT T j)*sgH (tauT T j) a b),← wnS_mul,← wnS_mul]
 have t:=h.tele hz (fun v=>D*(v.x*hY v))
 have e:wnS p z (fun a b=>((List.range (2*T)).map fun j=>xE D a b (tauT T j)*sgH (tauT T j) a b).sum)=wnS p z (fun a b=>D*(8388608*crossG a b)+(D*(b.x*hY b)-D*(a.x*hY a))):=by
  refine wnS_congr fun a ha k hk=>?_
  have na:=h.pt_near ha (k:=k) (by omega);have nb:=h.pt_near ha (k:=k+1) hk
  have hne:=(h.distinct ha hk).1
  have da:=hd a ha k hk
  generalize (pathS p a).getD k pt0=x at *
  generalize (pathS p a).getD (k+1) pt0=y at *
  have hn:hY y-hY x≠0:=fun e=>hne (hY_inj na nb (by omega))
  have es:=edge_sum (hT x na) (hT y nb)
  obtain ⟨q,hq⟩:=da
  have eq:D / (hY y-hY x)=q:=by rw [hq];exact Int.mul_ediv_cancel_left _ hn
  unfold xE
  rw [eq,sumC _ _ (fun j=>q*(sgH (tauT T j) x y*xN x y (tauT T j))) (fun j _=>by grind),sumM,es]
  have hc:8388608*crossG x y=x.x*hY y-y.x*hY x:=by unfold crossG hY;grind
  rw [hc,hq]
  generalize hY x=A;generalize hY y=B
  grind
 rw [e,wnS_add p z (fun a b=>D*(8388608*crossG a b)) (fun a b=>D*(b.x*hY b)-D*(a.x*hY a)),t,Int.add_zero]
theorem Valid.area_pos {z:Int→Int} (hz:ClosedC p z) (hw:∀ a∈p.arcs,z a.id≠0→(Hz p z (-a.id)=0∧Hz p z a.id=1)∨(Hz p z (-a.id)=1∧Hz p z a.id=0)) :
  0≤wnS p z crossG∧((∃ a∈p.arcs,z a.id≠0)→0<wnS p z crossG):=by
 obtain ⟨T,hT⟩:∃ T:Nat,∀ q,near1 q=true→-(T:Int)≤hY q∧hY q≤T:=⟨17592188141568,fun q hq=>by
  rw [near1_iff] at hq
  unfold hY
  omega⟩
 have hsep:∀ a∈p.arcs,∀ k,k+1<(pathS p a).length→hY ((pathS p a).getD (k+1) pt0)-hY ((pathS p a).getD k pt0)≠0:=fun a ha k hk e =>
  (h.distinct ha hk).1 (hY_inj (h.pt_near ha (by omega)) (h.pt_near ha hk) (by omega))
 obtain ⟨D,hD,hd⟩:∃ D:Int,0<D∧∀ a∈p.arcs,∀ k,k+1<(pathS p a).length→hY ((pathS p a).getD (k+1) pt0)-hY ((pathS p a).getD k pt0)∣D:=by
  obtain ⟨D,h1,h2⟩:=div_all (p.arcs.flatMap fun a=>(List.range ((pathS p a).length-1)).map fun k=>hY ((pathS p a).getD (k+1) pt0)-hY ((pathS p a).getD k pt0)) (fun x hx=>by
   obtain ⟨a,ha,hx⟩:=List.mem_flatMap.1 hx
   obtain ⟨k,hk,rfl⟩:=List.mem_map.1 hx
   exact hsep a ha k (by have:=List.mem_range.1 hk;omega))
  exact ⟨D,h1,fun a ha k hk=>h2 _ (List.mem_flatMap.2 ⟨a,ha,List.mem_map.2 ⟨k,List.mem_range.2 (by omega),rfl⟩⟩)⟩
 have e:=h.area_sum hz hT hd
 have odd:∀ j,tauT T j % 2=1:=fun j=>by unfold tauT;omega
 have S:=fun j=>h.slice_pos hz hw hD hd (odd j)
 refine ⟨?_,fun ⟨a,ha,hza⟩=>?_⟩
 ·
  have h0:=sumNN (List.range (2*T)) (fun j=>wnS p z (fun a b=>xE D a b (tauT T j)*sgH (tauT T j) a b)) (fun j _=>(S j).1)
  rw [← e] at h0
  apply Classical.byContradiction
  intro hn
  have:=Int.mul_neg_of_pos_of_neg hD (show 8388608*wnS p z crossG<0 by omega)
  omega
 ·
  have hl:=pathS_length p a
  have hk:0+1<(pathS p a).length:=by omega
  have hs:=hsep a ha 0 hk
  have t0:=hT _ (h.pt_near ha (k:=0) (by omega))
  have t1:=hT _ (h.pt_near ha (k:=0+1) hk)
  have h0:=sumPP (List.range (2*T)) (fun j=>wnS p z (fun a b=>xE D a b (tauT T j)*sgH (tauT T j) a b)) (fun j _=>(S j).1) (by
   refine ⟨(min (hY ((pathS p a).getD 0 pt0)) (hY ((pathS p a).getD (0+1) pt0))+T).toNat,List.mem_range.2 (by omega),?_⟩
   refine (S _).2 ⟨a,ha,0,hk,hza,?_⟩
   unfold sgH tauT
   generalize hY ((pathS p a).getD 0 pt0)=A at *
   generalize hY ((pathS p a).getD (0+1) pt0)=B at *
   have hj:(((min A B+T).toNat:Nat):Int)=min A B+T:=by omega
   rw [hj]
   by_cases c:A<B
   · rw [if_pos (by omega),if_neg (by omega)];omega
   · rw [if_neg (by omega),if_pos (by omega)];omega)
  rw [← e] at h0
  apply Classical.byContradiction
  intro hn
  have:=Int.mul_nonpos_of_nonneg_of_nonpos (show 0≤D by omega) (show 8388608*wnS p z crossG≤0 by omega)
  omega
end
end Go.Proofs.YtnhdmghgjngcaaaGreat
