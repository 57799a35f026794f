import Derived.Test.YtnhdmghgjngcaaaGreatJ37
import Derived.Test.YtnhdmghgjngcaaaGreatJ29
set_option linter.unusedSimpArgs false
set_option linter.unusedVariables false
namespace Go.Proofs.YtnhdmghgjngcaaaGreat
open Go.RowKit
set_option linter.unusedSectionVars false

section
variable {p:Pl} (h:Valid p)
include h
theorem Valid.ltD_iff {n:Nd} (hn:n∈p.nodes) {d e:Int} (hd:d∈dartL p.arcs n.id) (he:e∈dartL p.arcs n.id):ltD p n.pt d e=true↔dirLt n.pt (toD p d) (toD p e):=by
 obtain ⟨n0,n1,x1⟩:=h.to_facts hn hd
 obtain ⟨-,n2,x2⟩:=h.to_facts hn he
 unfold ltD
 rw [less_iff]
 exact ⟨fun h=>h.2.2.2,fun h=>⟨by simp [nears,n0,n1,n2],x1,x2,h⟩⟩
end
section
variable {p:Pl} (h:Valid p) {a:Ar} (ha:a∈p.arcs) {k:Nat} (hk:k<a.via.length) (hf:FreeAt p a k)
include h ha hk hf
theorem Valid.fr_ray {c:Ar} (hc:c∈p.arcs) {m:Nat} (hm:m+1<(pathS p c).length) (hne:¬ (c=a∧(m=k∨m=k+1))) {v u:Pt} (hvu:((pathS p c).getD m pt0=v∧(pathS p c).getD (m+1) pt0=u)∨((pathS p c).getD (m+1) pt0=v∧(pathS p c).getD m pt0=u)) :
  (v=(pathS p a).getD k pt0→witS ((pathS p a).getD k pt0) ((pathS p a).getD (k+1) pt0) ((pathS p a).getD (k+2) pt0) u=false∧rmeetN v u ((pathS p a).getD (k+1) pt0) ((pathS p a).getD (k+2) pt0)=0) ∧
  (v=(pathS p a).getD (k+2) pt0→witS ((pathS p a).getD k pt0) ((pathS p a).getD (k+1) pt0) ((pathS p a).getD (k+2) pt0) u=false∧rmeetN v u ((pathS p a).getD (k+1) pt0) ((pathS p a).getD k pt0)=0):=by
 have hl:=pathS_length p a;have hlc:=pathS_length p c
 obtain ⟨n1,n2,n3⟩:=h.fr_ne ha hk hf
 have B:=h.fr_beside ha hk hf hc hm hne
 have nA:=h.pt_near ha (k:=k) (by omega);have nB:=h.pt_near ha (k:=k+1) (by omega);have nC:=h.pt_near ha (k:=k+2) (by omega)
 have ns:=h.pt_near hc (k:=m) (by omega);have nt:=h.pt_near hc hm
 generalize (pathS p a).getD k pt0=A at *
 generalize (pathS p a).getD (k+1) pt0=Bm at *
 generalize (pathS p a).getD (k+2) pt0=C at *
 generalize (pathS p c).getD m pt0=s at *
 generalize (pathS p c).getD (m+1) pt0=t at *
 have flip1:∀ {x y z w:Pt},near1 x=true→near1 y=true→near1 z=true→near1 w=true→rmeetN y x z w=rmeetN x y z w:=fun {x y z w} a b c d=>by
  have:=rmeet_flip x y z w
  unfold rmeetS at this
  rwa [if_pos (near4 b a c d),if_pos (near4 a b c d)] at this
 have flip2:∀ {x y z w:Pt},near1 x=true→near1 y=true→near1 z=true→near1 w=true→rmeetN x y w z=rmeetN x y z w:=fun {x y z w} a b c d=>by
  have:=rmeet_flip2 x y z w
  unfold rmeetS at this
  rwa [if_pos (near4 a b d c),if_pos (near4 a b c d)] at this
 obtain ⟨x1,x2⟩:=B.no
 have hst:=B.ne
 have key:∀ {z:Pt},witS A Bm C z=true→(z=A∨z=C)→True:=fun _ _=>trivial
 rcases hvu with ⟨rfl,rfl⟩ | ⟨rfl,rfl⟩
 ·
  constructor
  ·
   intro e
   subst e
   have ht:t≠C:=fun e=>x1 ⟨rfl,e⟩
   refine ⟨?_,?_⟩
   ·
    cases g:witS s Bm C t
    · rfl
    ·
     rcases B.out2 g with g | g
     · exact absurd g.symm hst
     · exact absurd g ht
   ·
    apply Classical.byContradiction
    intro g
    rcases B.m2 g with g | g
    · exact n3 g
    · exact ht g
  ·
   intro e
   subst e
   have ht:t≠A:=fun e=>x2 ⟨rfl,e⟩
   refine ⟨?_,?_⟩
   ·
    cases g:witS A Bm s t
    · rfl
    ·
     rcases B.out2 g with g | g
     · exact absurd g ht
     · exact absurd g.symm hst
   ·
    apply Classical.byContradiction
    intro g
    rw [flip2 ns nt nA nB] at g
    rcases B.m1 g with g | g
    · exact n3 g.symm
    · exact ht g
 ·
  constructor
  ·
   intro e
   subst e
   have ht:s≠C:=fun e=>x2 ⟨e,rfl⟩
   refine ⟨?_,?_⟩
   ·
    cases g:witS t Bm C s
    · rfl
    ·
     rcases B.out1 g with g | g
     · exact absurd g hst
     · exact absurd g ht
   ·
    apply Classical.byContradiction
    intro g
    rw [flip1 ns nt nB nC] at g
    rcases B.m2 g with g | g
    · exact ht g
    · exact n3 g
  ·
   intro e
   subst e
   have ht:s≠A:=fun e=>x1 ⟨e,rfl⟩
   refine ⟨?_,?_⟩
   ·
    cases g:witS A Bm t s
    · rfl
    ·
     rcases B.out1 g with g | g
     · exact absurd g ht
     · exact absurd g hst
   ·
    apply Classical.byContradiction
    intro g
    rw [flip1 ns nt nB nA,flip2 ns nt nA nB] at g
    rcases B.m1 g with g | g
    · exact ht g
    · exact n3 g.symm
theorem Valid.fr_two:rmeetN ((pathS p a).getD k pt0) ((pathS p a).getD (k+1) pt0) ((pathS p a).getD (k+1) pt0) ((pathS p a).getD (k+2) pt0)≠2:=by
 have hl:=pathS_length p a
 have h1:=h.segs.2.1 a ha k (k+1) (by omega) (by omega)
 unfold apartS at h1
 rw [h.meetN ha ha (by omega) (by omega)] at h1
 intro e
 rw [e] at h1
 split at h1<;>simp at h1
theorem Valid.fr_atA (hk0:k=0) {n:Nd} (hn:n∈p.nodes) (hid:a.fr=n.id) {d:Int} (hd:d∈dartL p.arcs n.id) (hne:d≠a.id) :
  n.pt=(pathS p a).getD k pt0∧((cr1 ((pathS p a).getD (k+1) pt0) ((pathS p a).getD (k+2) pt0) n.pt=1∧dirLt n.pt (toD p d) ((pathS p a).getD (k+1) pt0)∧¬ dirLt n.pt (toD p d) ((pathS p a).getD (k+2) pt0)) ∨
   (cr1 ((pathS p a).getD (k+1) pt0) ((pathS p a).getD (k+2) pt0) n.pt=-1∧¬ dirLt n.pt (toD p d) ((pathS p a).getD (k+1) pt0)∧dirLt n.pt (toD p d) ((pathS p a).getD (k+2) pt0)) ∨
   (cr1 ((pathS p a).getD (k+1) pt0) ((pathS p a).getD (k+2) pt0) n.pt=0∧(dirLt n.pt (toD p d) ((pathS p a).getD (k+1) pt0)↔dirLt n.pt (toD p d) ((pathS p a).getD (k+2) pt0)))):=by
 have hl:=pathS_length p a
 obtain ⟨n1,n2,n3⟩:=h.fr_ne ha hk hf
 have nA:=h.pt_near ha (k:=k) (by omega);have nB:=h.pt_near ha (k:=k+1) (by omega);have nC:=h.pt_near ha (k:=k+2) (by omega)
 have eA:n.pt=(pathS p a).getD k pt0:=by rw [hk0,path_0,hid,h.sound.node_eq hn]
 obtain ⟨f1,f2,f3⟩:=h.to_facts hn hd
 obtain ⟨c,hc,m,hm,hor⟩:=h.dart_seg hn hd
 have hne2:¬ (c=a∧(m=k∨m=k+1)):=by
  rintro ⟨rfl,g⟩
  rcases hor with ⟨g1,g2,-⟩ | ⟨g1,g2,g3,-⟩
  · exact hne g1
  ·
   have:=hf.loop (hid.trans g3.symm)
   omega
 have ray:=(h.fr_ray ha hk hf hc hm hne2 (v:=n.pt) (u:=toD p d) (hor.imp (fun g=>⟨g.2.2.2.1,g.2.2.2.2⟩) (fun g=>⟨g.2.2.2.1,g.2.2.2.2⟩))).1 eA
 refine ⟨eA,?_⟩
 rw [eA] at ray f3 ⊢
 exact dir_cr nA nB nC f2 n1 n2 n3 f3 ray.1 ray.2 (h.fr_two ha hk hf)
theorem Valid.fr_atC (hkl:k+1=a.via.length) {n:Nd} (hn:n∈p.nodes) (hid:a.dst=n.id) {d:Int} (hd:d∈dartL p.arcs n.id) (hne:d≠-a.id) :
  n.pt=(pathS p a).getD (k+2) pt0∧((cr1 ((pathS p a).getD (k+1) pt0) ((pathS p a).getD k pt0) n.pt=1∧dirLt n.pt (toD p d) ((pathS p a).getD (k+1) pt0)∧¬ dirLt n.pt (toD p d) ((pathS p a).getD k pt0)) ∨
   (cr1 ((pathS p a).getD (k+1) pt0) ((pathS p a).getD k pt0) n.pt=-1∧¬ dirLt n.pt (toD p d) ((pathS p a).getD (k+1) pt0)∧dirLt n.pt (toD p d) ((pathS p a).getD k pt0)) ∨
   (cr1 ((pathS p a).getD (k+1) pt0) ((pathS p a).getD k pt0) n.pt=0∧(dirLt n.pt (toD p d) ((pathS p a).getD (k+1) pt0)↔dirLt n.pt (toD p d) ((pathS p a).getD k pt0)))):=by
 have hl:=pathS_length p a
 obtain ⟨n1,n2,n3⟩:=h.fr_ne ha hk hf
 have nA:=h.pt_near ha (k:=k) (by omega);have nB:=h.pt_near ha (k:=k+1) (by omega);have nC:=h.pt_near ha (k:=k+2) (by omega)
 have eC:n.pt=(pathS p a).getD (k+2) pt0:=by
  rw [show k+2=(pathS p a).length-1 by omega,path_end,hid,h.sound.node_eq hn]
 obtain ⟨f1,f2,f3⟩:=h.to_facts hn hd
 obtain ⟨c,hc,m,hm,hor⟩:=h.dart_seg hn hd
 have hne2:¬ (c=a∧(m=k∨m=k+1)):=by
  rintro ⟨rfl,g⟩
  rcases hor with ⟨g1,g2,g3,-⟩ | ⟨g1,g2,-⟩
  ·
   have:=hf.loop (g3.trans hid.symm)
   omega
  · exact hne g1
 have ray:=(h.fr_ray ha hk hf hc hm hne2 (v:=n.pt) (u:=toD p d) (hor.imp (fun g=>⟨g.2.2.2.1,g.2.2.2.2⟩) (fun g=>⟨g.2.2.2.1,g.2.2.2.2⟩))).2 eC
 refine ⟨eC,?_⟩
 rw [eC] at ray f3 ⊢
 refine dir_cr nC nB nA f2 n2.symm n1.symm n3.symm f3 (by rw [witS_rev];exact ray.1) ray.2 ?_
 have h2:=h.fr_two ha hk hf
 intro e
 apply h2
 have e1:=rmeet_flip ((pathS p a).getD (k+2) pt0) ((pathS p a).getD (k+1) pt0) ((pathS p a).getD (k+1) pt0) ((pathS p a).getD k pt0)
 have e2:=rmeet_flip2 ((pathS p a).getD (k+1) pt0) ((pathS p a).getD (k+2) pt0) ((pathS p a).getD (k+1) pt0) ((pathS p a).getD k pt0)
 have e3:=rmeetS_comm ((pathS p a).getD (k+1) pt0) ((pathS p a).getD (k+2) pt0) ((pathS p a).getD k pt0) ((pathS p a).getD (k+1) pt0)
 unfold rmeetS at e1 e2 e3
 rw [if_pos (near4 nB nC nB nA),if_pos (near4 nC nB nB nA)] at e1
 rw [if_pos (near4 nB nC nA nB),if_pos (near4 nB nC nB nA)] at e2
 rw [if_pos (near4 nB nC nA nB),if_pos (near4 nA nB nB nC)] at e3
 omega

theorem Valid.cut_find (i:Int):findAr (dropV p a.id k).arcs i=(findAr p.arcs i).map (thnG a.id k):=by
 unfold findAr
 rw [h.cut_arcs ha hk,List.find?_map]
 congr 1
 congr 1
 funext b
 show ((thnG a.id k b).id == i)=_
 rw [thnG_id]
theorem Valid.cut_arcD (d:Int):arcD (dropV p a.id k) d=(arcD p d).map (thnG a.id k):=by
 unfold arcD
 split
 · rfl
 · exact h.cut_find ha hk hf _
omit h ha hk hf in
theorem thnG_fr (i:Int) (k:Nat) (b:Ar):(thnG i k b).fr=b.fr∧(thnG i k b).dst=b.dst∧(thnG i k b).left=b.left∧(thnG i k b).right=b.right:=by unfold thnG;split<;>exact ⟨rfl,rfl,rfl,rfl⟩
theorem Valid.cut_start (d:Int):startD (dropV p a.id k) d=startD p d:=by
 unfold startD
 rw [h.cut_arcD ha hk hf]
 cases arcD p d with
 | none=>rfl
 | some b =>
  obtain ⟨e1,e2,-⟩:=thnG_fr a.id k b
  simp only [Option.map_some,e1,e2]
theorem Valid.cut_side (d:Int):sideD (dropV p a.id k) d=sideD p d:=by
 unfold sideD
 rw [h.cut_arcD ha hk hf]
 cases arcD p d with
 | none=>rfl
 | some b =>
  obtain ⟨-,-,e1,e2⟩:=thnG_fr a.id k b
  simp only [Option.map_some,e1,e2]
theorem Valid.cut_darts:dartsD (dropV p a.id k)=dartsD p:=by
 have:=h.cut_ids ha hk
 unfold dartsD
 rw [this]
 congr 2
 have e:∀ l:List Ar,l.map (fun a=>-a.id)=(l.map (·.id)).map (fun x=>-x):=fun l=>by rw [List.map_map];rfl
 rw [e,e,this]
theorem Valid.cut_dartL (n:Int):dartL (dropV p a.id k).arcs n=dartL p.arcs n:=by
 unfold dartL
 rw [h.cut_arcs ha hk,List.flatMap_map]
 have:∀ l:List Ar,(l.flatMap fun b=>(if (thnG a.id k b).fr=n then [(thnG a.id k b).id] else [])++(if (thnG a.id k b).dst=n then [-(thnG a.id k b).id] else []))=l.flatMap fun b=>(if b.fr=n then [b.id] else [])++(if b.dst=n then [-b.id] else []):=by
  intro l
  congr 1
  funext b
  obtain ⟨e1,e2,-⟩:=thnG_fr a.id k b
  rw [e1,e2,thnG_id]
 exact this p.arcs
theorem Valid.cut_to {d:Int} (hd:d∈dartsD p):toD (dropV p a.id k) d=if d=a.id∧k=0 then (pathS p a).getD (k+2) pt0 else if d=-a.id∧k+1=a.via.length then (pathS p a).getD k pt0 else toD p d:=by
 have hq:=h.cut ha hk hf
 have hpos:=(h.id_pos ha).1
 obtain ⟨c,hc,hor⟩:=mem_dartsD.1 hd
 have hcpos:=(h.id_pos hc).1
 have hc':thnG a.id k c∈(dropV p a.id k).arcs:=by rw [h.cut_arcs ha hk];exact List.mem_map_of_mem hc
 have eid:=thnG_id a.id k c
 have hat:=h.cut_at ha hk hc
 have hl:=pathS_length p a
 by_cases e:c=a
 ·
  subst e
  rw [if_pos rfl] at hat
  rw [hat] at hc' eid
  have hvl:(thnA c k).via.length=c.via.length-1:=by
   show (c.via.eraseIdx k).length=_
   rw [List.length_eraseIdx,if_pos hk]
  rcases hor with rfl | rfl
  ·
   have t1:=hq.to_pos hc'
   rw [h.cut_pt ha hk] at t1
   have t2:toD (dropV p c.id k) c.id=_:=t1
   rw [t2,if_neg (show ¬ (c.id=-c.id∧k+1=c.via.length) by omega),h.to_pos ha]
   by_cases k0:k=0
   ·
    subst k0
    rw [if_neg (by omega),if_pos ⟨rfl,rfl⟩]
   · rw [if_pos (by omega),if_neg (by omega)]
  ·
   have t1:=hq.to_neg hc'
   rw [h.cut_pt ha hk,hvl] at t1
   have t2:toD (dropV p c.id k) (-c.id)=_:=t1
   rw [t2,if_neg (show ¬ (-c.id=c.id∧k=0) by omega),h.to_neg ha]
   by_cases kl:k+1=c.via.length
   ·
    rw [if_pos (by omega),if_pos ⟨rfl,kl⟩]
    congr 1;omega
   ·
    rw [if_neg (by omega),if_neg (by omega)]
    congr 1;omega
 ·
  rw [if_neg e] at hat
  rw [hat] at hc' eid
  have hid:c.id≠a.id:=fun g=>e (h.arc_eq hc ha g)
  rcases hor with rfl | rfl
  ·
   rw [if_neg (fun g=>hid g.1),if_neg (by omega),h.to_pos hc]
   exact hq.to_pos hc'
  ·
   rw [if_neg (by omega),if_neg (by omega),h.to_neg hc]
   exact hq.to_neg hc'
theorem Valid.cut_around {n:Nd} (hn:n∈p.nodes):∃ A B,aroundD p n.id=A++B∧aroundD (dropV p a.id k) n.id=B++A:=by
 have hq:=h.cut ha hk hf
 have hnq:n∈(dropV p a.id k).nodes:=hn
 have hpos:=(h.id_pos ha).1
 have hl:=pathS_length p a
 have e1:=h.around_eq hn
 have e2:=hq.around_eq hnq
 have o1:=h.ordOn hn
 have o2:=hq.ordOn hnq
 rw [h.cut_dartL ha hk hf] at e2 o2
 rw [e1,e2]
 have hdm:∀ d∈dartL p.arcs n.id,d∈dartsD p:=fun d hd=>(h.dartL_start hd).1
 have lq:∀ d∈dartL p.arcs n.id,∀ e∈dartL p.arcs n.id,(ltD (dropV p a.id k) n.pt d e=true↔dirLt n.pt (toD (dropV p a.id k) d) (toD (dropV p a.id k) e)):=fun d hd e he =>
  hq.ltD_iff hnq (by rw [h.cut_dartL ha hk hf];exact hd) (by rw [h.cut_dartL ha hk hf];exact he)
 have hto:=fun d (hd:d∈dartL p.arcs n.id)=>h.cut_to ha hk hf (hdm d hd)
 have stay:∀ d∈dartL p.arcs n.id,∀ e∈dartL p.arcs n.id,toD (dropV p a.id k) d=toD p d→toD (dropV p a.id k) e=toD p e→ltD (dropV p a.id k) n.pt d e=ltD p n.pt d e:=fun d hd e he t1 t2=>by
  rw [Bool.eq_iff_iff,lq d hd e he,h.ltD_iff hn hd he,t1,t2]
 have tail:∀ {d0 c:Int} {X Y:Pt},(d0∈dartL p.arcs n.id→toD p d0=X∧toD (dropV p a.id k) d0=Y)→(∀ d∈dartL p.arcs n.id,d≠d0→toD (dropV p a.id k) d=toD p d) →
   (d0∈dartL p.arcs n.id→∀ d∈dartL p.arcs n.id,d≠d0→(c=1∧dirLt n.pt (toD p d) X∧¬ dirLt n.pt (toD p d) Y)∨(c=-1∧¬ dirLt n.pt (toD p d) X∧dirLt n.pt (toD p d) Y)∨(c=0∧(dirLt n.pt (toD p d) X↔dirLt n.pt (toD p d) Y))) →
   ∃ A B,sortB (ltD p n.pt) (dartL p.arcs n.id)=A++B∧sortB (ltD (dropV p a.id k) n.pt) (dartL p.arcs n.id)=B++A:=by
  intro d0 c X Y hX hY hc
  refine rot_one o1 o2 d0 c (fun d hd e he g1 g2=>stay d hd e he (hY d hd g1) (hY e he g2)) (fun h0 d hd hne=>?_)
  obtain ⟨x1,x2⟩:=hX h0
  have q1:=h.ltD_iff hn hd h0
  have q2:=lq d hd d0 h0
  rw [x1] at q1
  rw [x2,hY d hd hne] at q2
  rcases hc h0 d hd hne with ⟨c1,c2,c3⟩ | ⟨c1,c2,c3⟩ | ⟨c1,c2⟩
  · exact .inl ⟨c1,q1.2 c2,by rw [← Bool.not_eq_true,q2];exact c3⟩
  · exact .inr (.inl ⟨c1,by rw [← Bool.not_eq_true,q1];exact c2,q2.2 c3⟩)
  · exact .inr (.inr ⟨c1,by rw [Bool.eq_iff_iff,q1,q2];exact c2⟩)
 by_cases c1:k=0∧a.fr=n.id
 ·
  refine tail (d0:=a.id) (c:=cr1 ((pathS p a).getD (k+1) pt0) ((pathS p a).getD (k+2) pt0) n.pt) (X:=(pathS p a).getD (k+1) pt0) (Y:=(pathS p a).getD (k+2) pt0) (fun h0=>⟨by rw [h.to_pos ha,c1.1],by rw [hto _ h0,if_pos ⟨rfl,c1.1⟩]⟩) (fun d hd hne=>?_) (fun _ d hd hne=>(h.fr_atA ha hk hf c1.1 hn c1.2 hd hne).2)
  rw [hto d hd,if_neg (fun g=>hne g.1),if_neg]
  rintro ⟨rfl,g⟩
  have hs:=(h.dartL_start hd).2
  rw [h.start_neg ha] at hs
  have:=hf.loop (c1.2.trans hs.symm)
  omega
 ·
  by_cases c2:k+1=a.via.length∧a.dst=n.id
  ·
   refine tail (d0:=-a.id) (c:=cr1 ((pathS p a).getD (k+1) pt0) ((pathS p a).getD k pt0) n.pt) (X:=(pathS p a).getD (k+1) pt0) (Y:=(pathS p a).getD k pt0) (fun h0=>⟨by rw [h.to_neg ha,← c2.1],by rw [hto _ h0,if_neg (by omega),if_pos ⟨rfl,c2.1⟩]⟩) (fun d hd hne=>?_) (fun _ d hd hne=>(h.fr_atC ha hk hf c2.1 hn c2.2 hd hne).2)
   rw [hto d hd,if_neg,if_neg (fun g=>hne g.1)]
   rintro ⟨rfl,g⟩
   have hs:=(h.dartL_start hd).2
   rw [h.start_pos ha] at hs
   exact c1 ⟨g,hs⟩
  ·
   refine tail (d0:=0) (c:=0) (X:=n.pt) (Y:=n.pt) (fun h0=>?_) (fun d hd _=>?_) (fun h0=>?_)
   ·
    exfalso
    obtain ⟨x,hx,hor⟩:=mem_dartsD.1 (hdm 0 h0)
    have:=(h.id_pos hx).1
    omega
   ·
    rw [hto d hd,if_neg,if_neg]
    ·
     rintro ⟨rfl,g⟩
     have hs:=(h.dartL_start hd).2
     rw [h.start_neg ha] at hs
     exact c2 ⟨g,hs⟩
    ·
     rintro ⟨rfl,g⟩
     have hs:=(h.dartL_start hd).2
     rw [h.start_pos ha] at hs
     exact c1 ⟨g,hs⟩
   ·
    exfalso
    obtain ⟨x,hx,hor⟩:=mem_dartsD.1 (hdm 0 h0)
    have:=(h.id_pos hx).1
    omega
theorem Valid.cut_next (d:Int):nextD (dropV p a.id k) d=nextD p d:=by
 unfold nextD
 rw [h.cut_arcD ha hk hf,Option.isSome_map]
 split
 ·
  rename_i hs
  have hd:d∈dartsD p:=by
   unfold arcD at hs
   split at hs
   · cases hs
   ·
    rename_i h0
    obtain ⟨b,hb⟩:=Option.isSome_iff_exists.1 hs
    have hm:=findAr_mem hb
    have hid:b.id=absI d:=by
     have:=List.find?_some hb
     simpa using this
    refine mem_dartsD.2 ⟨b,hm,?_⟩
    unfold absI at hid
    split at hid
    · right;omega
    · left;omega
  obtain ⟨n,hn,e1,hm,e2⟩:=h.next_eq hd
  obtain ⟨A,B,r1,r2⟩:=h.cut_around ha hk hf hn
  rw [h.cut_start ha hk hf,← e1,r1,r2]
  have hnd:=h.around_nodup hn
  rw [r1] at hnd hm
  exact prec_rot hnd hm
 · rfl
theorem Valid.cut_cycles:cyclesD (dropV p a.id k)=cyclesD p:=by
 unfold cyclesD
 rw [h.cut_darts ha hk hf,show nextD (dropV p a.id k)=nextD p from funext (h.cut_next ha hk hf)]
end
end Go.Proofs.YtnhdmghgjngcaaaGreat
namespace Go.Proofs.YtnhdmghgjngcaaaGreat
open Go.RowKit
set_option linter.unusedSectionVars false

theorem sgx_mul {x y:Int} (h:0<y):(0<x↔0<x*y)∧(x<0↔x*y<0):=by
 rcases Int.lt_trichotomy x 0 with g | g | g
 · have:=Int.mul_neg_of_neg_of_pos g h;omega
 · subst g;rw [Int.zero_mul];omega
 · have:=Int.mul_pos g h;omega
theorem sgy_mul {x y:Int} (h:y<0):(0<x↔x*y<0)∧(x<0↔0<x*y):=by
 rcases Int.lt_trichotomy x 0 with g | g | g
 · have:=Int.mul_pos_of_neg_of_neg g h;omega
 · subst g;rw [Int.zero_mul];omega
 · have:=Int.mul_neg_of_pos_of_neg g h;omega
theorem tri_int {a b c α β γ:Int} (ha:a≠0) (hb:b≠0) (hc:c≠0) (e:α*a+β*b+γ*c=0) (h1:0<α+β+γ→¬ (0≤α∧0≤β∧0≤γ)) (h2:α+β+γ<0→¬ (α≤0∧β≤0∧γ≤0)) :
  (if a<0∧0<c∧0 < -β then (1:Int) else if c<0∧0<a∧0<β then -1 else 0) =
  (if a<0∧0<b∧0<γ then 1 else if b<0∧0<a∧0 < -γ then -1 else 0)+(if b<0∧0<c∧0<α then 1 else if c<0∧0<b∧0 < -α then -1 else 0):=by
 have ka:(0<a∧(0<α↔0<α*a)∧(α<0↔α*a<0))∨(a<0∧(0<α↔α*a<0)∧(α<0↔0<α*a)):=by
  rcases Int.lt_or_gt_of_ne ha with g | g
  · exact .inr ⟨g,sgy_mul g⟩
  · exact .inl ⟨g,sgx_mul g⟩
 have kb:(0<b∧(0<β↔0<β*b)∧(β<0↔β*b<0))∨(b<0∧(0<β↔β*b<0)∧(β<0↔0<β*b)):=by
  rcases Int.lt_or_gt_of_ne hb with g | g
  · exact .inr ⟨g,sgy_mul g⟩
  · exact .inl ⟨g,sgx_mul g⟩
 have kc:(0<c∧(0<γ↔0<γ*c)∧(γ<0↔γ*c<0))∨(c<0∧(0<γ↔γ*c<0)∧(γ<0↔0<γ*c)):=by
  rcases Int.lt_or_gt_of_ne hc with g | g
  · exact .inr ⟨g,sgy_mul g⟩
  · exact .inl ⟨g,sgx_mul g⟩
 generalize α*a=p at *
 generalize β*b=q at *
 generalize γ*c=r at *
 rcases ka with ⟨a1,a2,a3⟩ | ⟨a1,a2,a3⟩<;>rcases kb with ⟨b1,b2,b3⟩ | ⟨b1,b2,b3⟩<;>rcases kc with ⟨c1,c2,c3⟩ | ⟨c1,c2,c3⟩
 · rw [if_neg (by omega),if_neg (by omega),if_neg (by omega),if_neg (by omega),if_neg (by omega),if_neg (by omega)];rfl
 ·
  rw [if_neg (show ¬ (a<0∧_) by omega),if_neg (show ¬ (a<0∧_) by omega),if_neg (show ¬ (b<0∧_) by omega),if_neg (show ¬ (b<0∧_) by omega)]
  by_cases g:0<β
  · rw [if_pos (by omega),if_pos (by omega)];rfl
  · rw [if_neg (by omega),if_neg (by omega)];rfl
 ·
  rw [if_neg (show ¬ (a<0∧_) by omega),if_neg (show ¬ (a<0∧_) by omega),if_neg (show ¬ (c<0∧_) by omega),if_neg (show ¬ (c<0∧_) by omega)]
  by_cases g:0<α
  · rw [if_pos (by omega),if_pos (by omega)];rfl
  · rw [if_neg (by omega),if_neg (by omega)];rfl
 ·
  rw [if_neg (show ¬ (a<0∧_) by omega),if_neg (show ¬ (a<0∧_) by omega),if_neg (show ¬ (b<0∧0<c∧_) by omega),if_neg (show ¬ (c<0∧0<b∧_) by omega)]
  by_cases g:0<β
  · rw [if_pos (by omega),if_pos (by omega)];rfl
  · rw [if_neg (by omega),if_neg (by omega)];rfl
 ·
  rw [if_neg (show ¬ (c<0∧_) by omega),if_neg (show ¬ (b<0∧0<a∧_) by omega),if_neg (show ¬ (b<0∧_) by omega),if_neg (show ¬ (c<0∧_) by omega)]
  by_cases g:0<γ
  · rw [if_pos (by omega),if_pos (by omega)];rfl
  · rw [if_neg (by omega),if_neg (by omega)];rfl
 ·
  rw [if_neg (show ¬ (a<0∧0<c∧_) by omega),if_neg (show ¬ (c<0∧0<a∧_) by omega),if_neg (show ¬ (b<0∧0<a∧_) by omega),if_neg (show ¬ (b<0∧0<c∧_) by omega)]
  by_cases g:0<γ
  · rw [if_pos (by omega),if_pos (by omega)];rfl
  · rw [if_neg (by omega),if_neg (by omega)];rfl
 ·
  rw [if_neg (show ¬ (c<0∧_) by omega),if_neg (show ¬ (a<0∧0<b∧_) by omega),if_neg (show ¬ (b<0∧0<a∧_) by omega),if_neg (show ¬ (c<0∧_) by omega)]
  by_cases g:0<α
  · rw [if_pos (by omega),if_pos (by omega)];rfl
  · rw [if_neg (by omega),if_neg (by omega)];rfl
 · rw [if_neg (by omega),if_neg (by omega),if_neg (by omega),if_neg (by omega),if_neg (by omega),if_neg (by omega)];rfl
theorem tri_cr {A B C v:Pt} (na:near1 A=true) (nb:near1 B=true) (nc:near1 C=true) (nv:near1 v=true) (hA:v≠A) (hB:v≠B) (hC:v≠C) (hw:witS A B C v=false):cr1 A C v=cr1 A B v+cr1 B C v:=by
 have out:=tri_out na nb nc nv hw
 have s:tw B C v+tw C A v+tw A B v=tw A B C:=by unfold tw;grind
 have e:tw B C v*(hY A-hY v)+tw C A v*(hY B-hY v)+tw A B v*(hY C-hY v)=0:=by unfold tw hY;grind
 have k:=tri_int (a:=hY A-hY v) (b:=hY B-hY v) (c:=hY C-hY v) (fun g=>hA (hY_inj nv na (by omega))) (fun g=>hB (hY_inj nv nb (by omega))) (fun g=>hC (hY_inj nv nc (by omega))) e (fun g=>out.1 (by omega)) (fun g=>out.2 (by omega))
 have w1:tw B A v=-tw A B v:=tw_swap A B v
 have w2:tw C B v=-tw B C v:=tw_swap B C v
 have w3:tw A C v=-tw C A v:=tw_swap C A v
 unfold cr1
 rw [w1,w2,w3]
 have q:∀ {x y:Pt} {t:Int},(hY x<hY v∧hY v<hY y∧0<t)↔(hY x-hY v<0∧0<hY y-hY v∧0<t):=by intro x y t;omega
 simp only [q]
 exact k
theorem stp_two (f:Pt→Pt→Int) (x y:Pt) (l:List Pt):stp f (x::y::l)=f x y+stp f (y::l):=by
 unfold stp
 have e:(x::y::l).length-1=l.length+1:=by simp
 have e2:(y::l).length-1=l.length:=by simp
 rw [e,e2,List.range_succ_eq_map,List.map_cons,List.sum_cons,List.map_map]
 rfl
theorem stp_cons (f:Pt→Pt→Int) (x:Pt) {l:List Pt} (h:l≠[]):stp f (x::l)=f x (l.headD pt0)+stp f l:=by
 cases l with
 | nil=>exact absurd rfl h
 | cons y l=>exact stp_two f x y l
theorem stp_mid (f:Pt→Pt→Int) (A B C:Pt) (t:List Pt):∀ s:List Pt,stp f (s++A::C::t)=stp f (s++A::B::C::t)-f A B-f B C+f A C
 | []=>by
  rw [List.nil_append,List.nil_append,stp_two,stp_two,stp_two]
  omega
 | x::s=>by
  rw [List.cons_append,List.cons_append,stp_cons f x (by simp),stp_cons f x (by simp),stp_mid f A B C t s]
  have e:(s++A::C::t).headD pt0=(s++A::B::C::t).headD pt0:=by cases s<;>rfl
  rw [e]
  omega
theorem stp_erase (f:Pt→Pt→Int) {l:List Pt} {k:Nat} (hk:k+2<l.length):stp f (l.eraseIdx (k+1))=stp f l-f (l.getD k pt0) (l.getD (k+1) pt0)-f (l.getD (k+1) pt0) (l.getD (k+2) pt0)+f (l.getD k pt0) (l.getD (k+2) pt0):=by
 have g:∀ j (hj:j<l.length),l.getD j pt0=l[j]:=fun j hj=>by
  rw [List.getD_eq_getElem?_getD,List.getElem?_eq_getElem hj];rfl
 have e1:l=l.take k++l[k]::l[k+1]::l[k+2]::l.drop (k+3):=by
  rw [← List.drop_eq_getElem_cons hk,← List.drop_eq_getElem_cons (show k+1<l.length by omega),← List.drop_eq_getElem_cons (show k<l.length by omega),List.take_append_drop]
 have e2:l.eraseIdx (k+1)=l.take k++l[k]::l[k+2]::l.drop (k+3):=by
  rw [List.eraseIdx_eq_take_drop_succ,List.take_succ_eq_append_getElem (show k<l.length by omega),List.drop_eq_getElem_cons hk,List.append_assoc]
  rfl
 rw [g k (by omega),g (k+1) (by omega),g (k+2) hk,e2,stp_mid f l[k] l[k+1] l[k+2] (l.drop (k+3)) (l.take k),← e1]
theorem ltF_off {v u a b:Pt} (ha:a≠v) (hb:b≠v):ltF v u a b=cr1 a b v:=by
 unfold ltF
 rw [if_neg (fun g=>ha g.1),if_neg (fun g=>hb g.1)]
 omega
theorem ltF_fst {v u b:Pt} (hb:b≠v):ltF v u v b=-(if dirLt v u b then 1 else 0):=by
 have c1:cr1 v b v=0:=by unfold cr1;rw [if_neg (by omega),if_neg (by omega)]
 unfold ltF
 rw [c1,if_neg (fun g:b=v∧_=>hb g.1)]
 simp only [true_and]
 omega
theorem ltF_snd {v u a:Pt} (ha:a≠v):ltF v u a v=if dirLt v u a then 1 else 0:=by
 have c1:cr1 a v v=0:=by unfold cr1;rw [if_neg (by omega),if_neg (by omega)]
 unfold ltF
 rw [c1,if_neg (fun g:a=v∧_=>ha g.1)]
 simp only [true_and]
 omega
section
variable {p:Pl} (h:Valid p) {a:Ar} (ha:a∈p.arcs) {k:Nat} (hk:k<a.via.length) (hf:FreeAt p a k)
include h ha hk hf
theorem Valid.cut_wn {f:Pt→Pt→Int} {z:Int→Int} (hA:f ((pathS p a).getD k pt0) ((pathS p a).getD (k+2) pt0)=f ((pathS p a).getD k pt0) ((pathS p a).getD (k+1) pt0)+f ((pathS p a).getD (k+1) pt0) ((pathS p a).getD (k+2) pt0)):wnS (dropV p a.id k) z f=wnS p z f:=by
 have hl:=pathS_length p a
 unfold wnS
 rw [h.cut_arcs ha hk,List.map_map]
 refine sumC _ _ _ fun b hb=>?_
 show z (thnG a.id k b).id*stp f (pathS (dropV p a.id k) (thnG a.id k b))=_
 rw [thnG_id,h.cut_at ha hk hb]
 by_cases e:b=a
 ·
  subst e
  rw [if_pos rfl,path_cut p b hk,stp_erase f (by omega)]
  congr 1
  omega
 ·
  rw [if_neg e]
  rfl
theorem Valid.cut_hz {z:Int→Int} {d:Int} (hd:d∈dartsD p) (ht:toD (dropV p a.id k) d=toD p d):Hz (dropV p a.id k) z d=Hz p z d:=by
 have hl:=pathS_length p a
 obtain ⟨n1,n2,n3⟩:=h.fr_ne ha hk hf
 have nA:=h.pt_near ha (k:=k) (by omega);have nB:=h.pt_near ha (k:=k+1) (by omega);have nC:=h.pt_near ha (k:=k+2) (by omega)
 obtain ⟨n,hn,e1,hm⟩:=h.start_node hd
 unfold Hz ltW
 rw [h.cut_start ha hk hf,ht]
 have ev:nodeAt (dropV p a.id k) (startD p d)=n.pt:=by rw [← e1];exact h.sound.node_eq hn
 have ev2:nodeAt p (startD p d)=n.pt:=by rw [← e1];exact h.sound.node_eq hn
 rw [ev,ev2]
 have nv:=h.node_near hn
 have hnB:n.pt≠(pathS p a).getD (k+1) pt0:=fun e=>by
  rcases h.occ_node hn ha (k:=k+1) (by omega) e.symm with ⟨g,-⟩ | ⟨g,-⟩<;>omega
 refine h.cut_wn ha hk hf ?_
 have hto:=h.cut_to ha hk hf hd
 rw [ht] at hto
 by_cases eA:n.pt=(pathS p a).getD k pt0
 ·
  have hk0:k=0∧a.fr=n.id:=by
   rcases h.occ_node hn ha (k:=k) (by omega) eA.symm with g | ⟨g,-⟩
   · exact g
   · omega
  have hne:d≠a.id:=by
   rintro rfl
   rw [if_pos ⟨rfl,hk0.1⟩,h.to_pos ha,hk0.1] at hto
   rw [hk0.1] at n2
   exact n2 hto
  have q:=(h.fr_atA ha hk hf hk0.1 hn hk0.2 hm hne).2
  rw [eA] at q hnB ⊢
  rw [ltF_fst n3.symm,ltF_fst n1.symm,ltF_off n1.symm n3.symm]
  rcases q with ⟨g1,g2,g3⟩ | ⟨g1,g2,g3⟩ | ⟨g1,g2⟩
  · rw [g1,if_neg g3,if_pos g2];rfl
  · rw [g1,if_pos g3,if_neg g2];rfl
  ·
   rw [g1]
   simp only [g2]
   omega
 ·
  by_cases eC:n.pt=(pathS p a).getD (k+2) pt0
  ·
   have hkl:k+1=a.via.length∧a.dst=n.id:=by
    rcases h.occ_node hn ha (k:=k+2) (by omega) eC.symm with ⟨g,-⟩ | ⟨g,g2⟩
    · omega
    · exact ⟨by omega,g2⟩
   have hne:d≠-a.id:=by
    rintro rfl
    have hpos:=(h.id_pos ha).1
    rw [if_neg (by omega),if_pos ⟨rfl,hkl.1⟩,h.to_neg ha,← hkl.1] at hto
    exact n1 hto.symm
   have q:=(h.fr_atC ha hk hf hkl.1 hn hkl.2 hm hne).2
   rw [eC] at q hnB eA ⊢
   have c3:=cr1_neg ((pathS p a).getD k pt0) ((pathS p a).getD (k+1) pt0) ((pathS p a).getD (k+2) pt0)
   rw [ltF_snd n3,ltF_snd n2,ltF_off n3 n2]
   rcases q with ⟨g1,g2,g3⟩ | ⟨g1,g2,g3⟩ | ⟨g1,g2⟩
   · rw [if_neg g3,if_pos g2];omega
   · rw [if_pos g3,if_neg g2];omega
   ·
    simp only [g2]
    omega
  ·
   have hw:witS ((pathS p a).getD k pt0) ((pathS p a).getD (k+1) pt0) ((pathS p a).getD (k+2) pt0) n.pt=false:=by
    cases g:witS ((pathS p a).getD k pt0) ((pathS p a).getD (k+1) pt0) ((pathS p a).getD (k+2) pt0) n.pt
    · rfl
    ·
     have hb:=hf.nds n hn
     unfold blkS at hb
     rw [tri_eq hf.oA hf.oB hf.oC,g] at hb
     simp only [Bool.and_true,Bool.and_eq_false_imp,decide_eq_true_eq,decide_eq_false_iff_not,ne_eq,Decidable.not_not] at hb
     exact absurd (hb eA hnB) eC
   rw [ltF_off (fun e=>eA e.symm) (fun e=>eC e.symm),ltF_off (fun e=>eA e.symm) (fun e=>hnB e.symm),ltF_off (fun e=>hnB e.symm) (fun e=>eC e.symm)]
   exact tri_cr nA nB nC nv eA hnB eC hw
end
theorem Valid.hz_sign {p:Pl} (h:Valid p) {X:List Int} (hX:X∈cyclesD p) {r d:Int} (hr:r∈X) (hd:d∈dartsD p) (hs:slE p p.arcs.length d=slE p p.arcs.length r):0<arX p X↔Hz p (chX X) d=if d∈X then 1 else 0:=by
 have h2:=(h.cyc_nodup hX).2
 obtain ⟨d0,g1,g2,g3⟩:=h.top_dart (h2 r hr)
 have hsg:=h.cyc_sign hX hr g1 g2 g3
 have hc:=h.hz_class hX hd g1 (hs.trans g2.symm)
 have h0:Hz p (chX X) d0=0:=by
  refine g3 _ (h.chX_closed hX) fun a ha hne=>?_
  exact (h.chX_class hX hr ha hne).1
 rw [h0] at hc
 rw [hsg]
 by_cases e:d0∈X
 ·
  rw [if_pos e] at hc
  constructor
  · intro g;exact absurd e g
  · intro g;rw [g] at hc;omega
 ·
  rw [if_neg e] at hc
  exact ⟨fun _=>by omega,fun _=>e⟩
section
variable {p:Pl} (h:Valid p) {a:Ar} (ha:a∈p.arcs) {k:Nat} (hk:k<a.via.length) (hf:FreeAt p a k)
include h ha hk hf
theorem Valid.cut_dartT {d:Int} (hd:d∈dartsD p) (h1:d≠a.id) (h2:d≠-a.id):dartT (dropV p a.id k) d=dartT p d:=by
 obtain ⟨c,hc,hor⟩:=mem_dartsD.1 hd
 have hne:c≠a:=by rintro rfl;rcases hor with e | e;exact h1 e;exact h2 e
 unfold dartT
 rw [h.cut_arcD ha hk hf]
 have e1:arcD p d=some c:=by rcases hor with rfl | rfl;exact h.arcD_pos hc;exact h.arcD_neg hc
 rw [e1]
 simp only [Option.map_some]
 rw [h.cut_at ha hk hc,if_neg hne]
 rfl
theorem Valid.cut_dartN:dartT (dropV p a.id k) (-a.id)=-dartT (dropV p a.id k) a.id∧dartT p (-a.id)=-dartT p a.id:=by
 have hq:=h.cut ha hk hf
 have hc':thnA a k∈(dropV p a.id k).arcs:=by
  rw [h.cut_arcs ha hk]
  exact List.mem_map.2 ⟨a,ha,by rw [h.cut_at ha hk ha,if_pos rfl]⟩
 have e1:=hq.dartT_pos hc'
 have e2:=h.dartT_pos ha
 refine ⟨?_,by rw [e2.1,e2.2]⟩
 show dartT (dropV p a.id k) (-(thnA a k).id)=-dartT (dropV p a.id k) (thnA a k).id
 rw [e1.1,e1.2]
theorem Valid.cut_ar_both {X:List Int} (hX:X∈cyclesD p) (hb:a.id∈X↔-a.id∈X):arX (dropV p a.id k) X=arX p X:=by
 have hq:=h.cut ha hk hf
 have hX':X∈cyclesD (dropV p a.id k):=by rw [h.cut_cycles ha hk hf];exact hX
 have hd:=(h.cyc_nodup hX).2
 unfold arX
 rw [h.sum_cyc hX (dartT (dropV p a.id k)),h.sum_cyc hX (dartT p)]
 refine sumC _ _ _ fun c hc=>?_
 by_cases e:c=a
 ·
  subst e
  obtain ⟨n1,n2⟩:=h.cut_dartN ha hk hf
  rw [n1,n2]
  by_cases g:c.id∈X
  · rw [if_pos g,if_pos (hb.1 g),if_pos g,if_pos (hb.1 g)];omega
  · rw [if_neg g,if_neg (fun q=>g (hb.2 q)),if_neg g,if_neg (fun q=>g (hb.2 q))]
 ·
  have hid:c.id≠a.id:=fun g=>e (h.arc_eq hc ha g)
  have p1:=(h.id_pos hc).1;have p2:=(h.id_pos ha).1
  rw [h.cut_dartT ha hk hf (mem_dartsD.2 ⟨c,hc,.inl rfl⟩) hid (by omega),h.cut_dartT ha hk hf (mem_dartsD.2 ⟨c,hc,.inr rfl⟩) (by omega) (by omega)]
theorem Valid.cut_sign {X:List Int} (hX:X∈cyclesD p):0<arX (dropV p a.id k) X↔0<arX p X:=by
 have hq:=h.cut ha hk hf
 have hX':X∈cyclesD (dropV p a.id k):=by rw [h.cut_cycles ha hk hf];exact hX
 have hdm:=(h.cyc_nodup hX).2
 have hpos:=(h.id_pos ha).1
 by_cases hb:a.id∈X↔-a.id∈X
 · rw [h.cut_ar_both ha hk hf hX hb]
 have key:∀ {r d:Int},r∈X→d∈dartsD p→(d=r∨d=-r)→¬ (d=a.id∧k=0)→¬ (d=-a.id∧k+1=a.via.length)→(0<arX (dropV p a.id k) X↔0<arX p X):=by
  intro r d hr hd hor g1 g2
  have ht:toD (dropV p a.id k) d=toD p d:=by rw [h.cut_to ha hk hf hd,if_neg g1,if_neg g2]
  have hd':d∈dartsD (dropV p a.id k):=by rw [h.cut_darts ha hk hf];exact hd
  have hr':r∈dartsD (dropV p a.id k):=by rw [h.cut_darts ha hk hf];exact hdm r hr
  have s1:slE p p.arcs.length d=slE p p.arcs.length r:=by
   rcases hor with rfl | rfl
   · rfl
   · exact h.sl_dart (hdm r hr)
  have s2:slE (dropV p a.id k) (dropV p a.id k).arcs.length d=slE (dropV p a.id k) (dropV p a.id k).arcs.length r:=by
   rcases hor with rfl | rfl
   · rfl
   · exact hq.sl_dart hr'
  rw [hq.hz_sign hX' hr hd' s2,h.hz_sign hX hr hd s1,h.cut_hz ha hk hf hd ht]
 have ma:a.id∈dartsD p:=mem_dartsD.2 ⟨a,ha,.inl rfl⟩
 have mb:-a.id∈dartsD p:=mem_dartsD.2 ⟨a,ha,.inr rfl⟩
 have s1:=h.start_pos ha
 have s2:=h.start_neg ha
 by_cases e1:a.id∈X
 ·
  have e2:-a.id∉X:=fun g=>hb ⟨fun _=>g,fun _=>e1⟩
  by_cases k0:k=0
  ·
   by_cases kl:k+1=a.via.length
   ·
    have hne:a.fr≠a.dst:=fun g=>by have:=hf.loop g;omega
    have hn:=h.next_mem ma
    have hnX:=(h.cyc_next hX ma).2 e1
    refine key hnX hn.1 (.inl rfl) (fun g=>?_) (fun g=>e2 (by rw [← g.1];exact hnX))
    rw [g.1,s1,s2] at hn
    exact hne hn.2
   · exact key e1 mb (.inr rfl) (fun g=>by omega) (fun g=>kl g.2)
  · exact key e1 ma (.inl rfl) (fun g=>k0 g.2) (fun g=>by omega)
 ·
  have e2:-a.id∈X:=by
   apply Classical.byContradiction
   intro g
   exact hb ⟨fun q=>absurd q e1,fun q=>absurd q g⟩
  by_cases kl:k+1=a.via.length
  ·
   by_cases k0:k=0
   ·
    have hne:a.fr≠a.dst:=fun g=>by have:=hf.loop g;omega
    have hn:=h.next_mem mb
    have hnX:=(h.cyc_next hX mb).2 e2
    refine key hnX hn.1 (.inl rfl) (fun g=>e1 (by rw [← g.1];exact hnX)) (fun g=>?_)
    rw [g.1,Int.neg_neg,s1,s2] at hn
    exact hne hn.2.symm
   · exact key e2 ma (.inr (by omega)) (fun g=>k0 g.2) (fun g=>by omega)
  · exact key e2 mb (.inl rfl) (fun g=>by omega) (fun g=>kl g.2)
theorem Valid.cut_out:outX (dropV p a.id k)=outX p:=by
 unfold outX
 rw [h.cut_cycles ha hk hf]
 refine List.filter_congr fun X hX=>?_
 have:=h.cut_sign ha hk hf hX
 simp only [this]
theorem Valid.cut_res:resX (dropV p a.id k)=resX p:=by
 unfold resX
 rw [h.cut_cycles ha hk hf]
 refine List.filter_congr fun X hX=>?_
 have:=h.cut_sign ha hk hf hX
 simp only [this]
end
end Go.Proofs.YtnhdmghgjngcaaaGreat
