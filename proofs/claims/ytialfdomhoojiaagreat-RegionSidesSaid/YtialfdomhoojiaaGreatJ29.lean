import Derived.Test.YtialfdomhoojiaaGreatJ08
import Derived.Test.YtialfdomhoojiaaGreatJ12
import Derived.Test.YtialfdomhoojiaaGreatJ13
import Derived.Test.YtialfdomhoojiaaGreatJ19
set_option linter.unusedSimpArgs false
set_option linter.unusedVariables false
namespace Go.Proofs.YtialfdomhoojiaaGreat
open Go.RowKit

section
variable {p:Pl} (h:Valid p)
include h
theorem Valid.path_big {a:Ar} (ha:a∈p.arcs) {k:Nat} (hk:k<(pathS p a).length):big1 ((pathS p a).getD k pt0):=by
 rw [List.getD_eq_getElem?_getD,List.getElem?_eq_getElem hk]
 exact h.big_path ha (List.getElem_mem hk)
theorem Valid.node_big {n:Nd} (hn:n∈p.nodes):big1 n.pt:=by
 have hr:=h.rng
 unfold rangesS at hr
 simp only [Bool.and_eq_true,List.all_eq_true] at hr
 exact big_of (hr.2 _ (List.mem_append_left _ (List.mem_map_of_mem hn)))
end
end Go.Proofs.YtialfdomhoojiaaGreat
namespace Go.Proofs.YtialfdomhoojiaaGreat
open Go.RowKit
set_option linter.unusedSectionVars false

theorem max_where {α:Type} (t:α→Int) (q:α→Bool):∀ (l:List α),(∃ x∈l,q x=true)→∃ x∈l,q x=true∧∀ y∈l,q y=true→t y≤t x
 | [],h=>by obtain ⟨x,hx,_⟩:=h;cases hx
 | a::l,h=>by
  by_cases hl:∃ x∈l,q x=true
  ·
   obtain ⟨x,hx,h1,h2⟩:=max_where t q l hl
   by_cases ha:q a=true∧t x<t a
   ·
    refine ⟨a,List.mem_cons_self,ha.1,fun y hy hq=>?_⟩
    rcases List.mem_cons.1 hy with rfl | hy
    · exact Int.le_refl _
    · have:=h2 y hy hq;omega
   ·
    refine ⟨x,List.mem_cons_of_mem _ hx,h1,fun y hy hq=>?_⟩
    rcases List.mem_cons.1 hy with rfl | hy
    ·
     have:¬ t x<t y:=fun g=>ha ⟨hq,g⟩
     omega
    · exact h2 y hy hq
  ·
   obtain ⟨x,hx,h1⟩:=h
   rcases List.mem_cons.1 hx with rfl | hx
   ·
    refine ⟨x,List.mem_cons_self,h1,fun y hy hq=>?_⟩
    rcases List.mem_cons.1 hy with rfl | hy
    · exact Int.le_refl _
    · exact absurd ⟨y,hy,hq⟩ hl
   · exact absurd ⟨x,hx,h1⟩ hl
theorem filter_uq {α:Type} {q:α→Bool}:∀ {l:List α},l.Nodup→∀ {x:α},x∈l→q x=true→(∀ y∈l,q y=true→y=x)→(l.filter q).length=1
 | [],_,x,hx,_,_=>by cases hx
 | a::l,hn,x,hx,hq,hu=>by
  obtain ⟨ha,hn'⟩:=List.nodup_cons.1 hn
  rw [List.filter_cons]
  by_cases c:q a=true
  ·
   have e:=hu a List.mem_cons_self c
   subst e
   rw [if_pos c,List.filter_eq_nil_iff.2 (fun y hy hqy=>ha (by rw [← hu y (List.mem_cons_of_mem _ hy) hqy];exact hy))]
   rfl
  ·
   rw [if_neg c]
   rcases List.mem_cons.1 hx with rfl | hx
   · exact absurd hq c
   · exact filter_uq hn' hx hq fun y hy=>hu y (List.mem_cons_of_mem _ hy)
theorem filter_zero {α:Type} {q:α→Bool} {l:List α} (h:∀ y∈l,q y=true→False):(l.filter q).length=0:=by
 rw [List.filter_eq_nil_iff.2 (fun y hy hq=>h y hy hq)]
 rfl
section
variable {α:Type} {O:List α} (hn:O.Nodup) {E:α→Bool} {ar:α→Int} {A:α→α→Bool}
 (h1:∀ Y∈O,∀ Z∈O,E Y=true→E Z=true→Y≠Z→A Z Y=true∨A Y Z=true)
 (h2:∀ Y∈O,∀ Z∈O,A Z Y=true→ar Y<ar Z)
 (h3:∀ Y∈O,∀ Z∈O,A Z Y=true→E Y=true→E Z=true)
include hn h1 h2 h3
theorem chain_some [DecidableEq α] {X:α} (hX:X∈O):((O.filter (fun Y=>E Y && decide (bestC (fun Z=>A Z Y) ar O=some X))).length:Int)=(if E X=true then 1 else 0)-(if bestC E ar O=some X then 1 else 0):=by
 by_cases eX:E X=true
 ·
  rw [if_pos eX]
  by_cases eb:bestC E ar O=some X
  ·
   rw [if_pos eb,filter_zero]
   · rfl
   ·
    intro Y hY hq
    rw [Bool.and_eq_true,decide_eq_true_eq] at hq
    obtain ⟨-,b1,-⟩:=best_some _ _ hq.2
    obtain ⟨-,-,b2⟩:=best_some _ _ eb
    have:=b2 Y hY hq.1
    have:=h2 Y hY X hX b1
    omega
  ·
   rw [if_neg eb]
   obtain ⟨Y0,hY0,q0,m0⟩:=max_where ar (fun Y=>E Y && decide (ar Y<ar X)) O (by
    have:=best_facts E ar O
    cases e:bestC E ar O with
    | none=>rw [e] at this;have:=this X hX;rw [eX] at this;cases this
    | some W =>
     rw [e] at this
     obtain ⟨w1,w2,w3⟩:=this
     have hne:W≠X:=fun g=>eb (by rw [e,g])
     refine ⟨W,w1,?_⟩
     rw [Bool.and_eq_true,decide_eq_true_eq]
     refine ⟨w2,?_⟩
     have:=w3 X hX eX
     rcases h1 W w1 X hX w2 eX hne with g | g
     · exact h2 W w1 X hX g
     · have:=h2 X hX W w1 g;omega)
   rw [Bool.and_eq_true,decide_eq_true_eq] at q0
   have aX:A X Y0=true:=by
    rcases h1 Y0 hY0 X hX q0.1 eX (fun g=>by rw [g] at q0;omega) with g | g
    · exact g
    · have:=h2 X hX Y0 hY0 g;omega
   rw [filter_uq hn hY0]
   · rfl
   ·
    rw [Bool.and_eq_true,decide_eq_true_eq]
    refine ⟨q0.1,?_⟩
    have:=best_facts (fun Z=>A Z Y0) ar O
    cases e:bestC (fun Z=>A Z Y0) ar O with
    | none=>rw [e] at this;have:=this X hX;rw [aX] at this;cases this
    | some W =>
     rw [e] at this
     obtain ⟨w1,w2,w3⟩:=this
     have g1:=w3 X hX aX
     have eW:=h3 Y0 hY0 W w1 w2 q0.1
     have g2:=h2 Y0 hY0 W w1 w2
     by_cases hne:W=X
     · rw [hne]
     ·
      have g3:ar W<ar X:=by
       rcases h1 W w1 X hX eW eX hne with g | g
       · exact h2 W w1 X hX g
       · have:=h2 X hX W w1 g;omega
      have:=m0 W w1 (by rw [Bool.and_eq_true,decide_eq_true_eq];exact ⟨eW,g3⟩)
      omega
   ·
    intro Y hY hq
    rw [Bool.and_eq_true,decide_eq_true_eq] at hq
    obtain ⟨-,b1,b2⟩:=best_some _ _ hq.2
    have g1:=h2 Y hY X hX b1
    have g2:=m0 Y hY (by rw [Bool.and_eq_true,decide_eq_true_eq];exact ⟨hq.1,g1⟩)
    by_cases hne:Y=Y0
    · exact hne
    ·
     exfalso
     rcases h1 Y hY Y0 hY0 hq.1 q0.1 hne with g | g
     · have:=b2 Y0 hY0 g;omega
     · have:=h2 Y0 hY0 Y hY g;omega
 ·
  rw [if_neg eX,if_neg (fun g=>eX (best_some _ _ g).2.1),filter_zero]
  · rfl
  ·
   intro Y hY hq
   rw [Bool.and_eq_true,decide_eq_true_eq] at hq
   obtain ⟨-,b1,-⟩:=best_some _ _ hq.2
   exact eX (h3 Y hY X hX b1 hq.1)
end
end Go.Proofs.YtialfdomhoojiaaGreat
namespace Go.Proofs.YtialfdomhoojiaaGreat
open Go.RowKit
set_option linter.unusedSectionVars false

def arnd (p:Pl) (Z Y:List Int):Bool:=decide (slE p p.arcs.length (Z.headD 0)≠slE p p.arcs.length (Y.headD 0)) && decide (Hz p (chX Z) (Y.headD 0)=1)
def HW (p:Pl) (z:Int→Int):Prop:=∀ a∈p.arcs,z a.id≠0→(Hz p z (-a.id)=0∧Hz p z a.id=1)∨(Hz p z (-a.id)=1∧Hz p z a.id=0)
section
variable {p:Pl} (h:Valid p)
include h
theorem Valid.pair_cases {X Y:List Int} (hX:X∈outX p) (hY':Y∈outX p) (hXY:X≠Y) :
  (HW p (fun i=>chX X i+chX Y i)∧arnd p X Y=false∧arnd p Y X=false) ∨
  (HW p (fun i=>chX X i + -chX Y i)∧arX p Y<arX p X∧arnd p X Y=true∧arnd p Y X=false) ∨
  (HW p (fun i=>chX Y i + -chX X i)∧arX p X<arX p Y∧arnd p Y X=true∧arnd p X Y=false):=by
 obtain ⟨hX,hpX⟩:=mem_outX.1 hX
 obtain ⟨hY',hpY⟩:=mem_outX.1 hY'
 obtain ⟨x,hxd,-,ex,hx⟩:=h.cyc_form hX
 obtain ⟨y,hyd,-,ey,hy⟩:=h.cyc_form hY'
 unfold arnd
 rw [ex,ey]
 have zX:=h.chX_closed hX
 have zY:=h.chX_closed hY'
 have both:∀ d,¬ (d∈X∧d∈Y):=fun d hd=>hXY (h.cyc_one hX hY' hd.1 hd.2)
 have dm:∀ a∈p.arcs,a.id∈dartsD p∧-a.id∈dartsD p:=fun a ha=>⟨mem_dartsD.2 ⟨a,ha,.inl rfl⟩,mem_dartsD.2 ⟨a,ha,.inr rfl⟩⟩
 have sup:∀ a∈p.arcs,(chX X a.id≠0∨chX Y a.id≠0)→(slE p p.arcs.length a.id=slE p p.arcs.length x∧slE p p.arcs.length (-a.id)=slE p p.arcs.length x)∨(slE p p.arcs.length a.id=slE p p.arcs.length y∧slE p p.arcs.length (-a.id)=slE p p.arcs.length y):=by
  intro a ha hne
  by_cases c:chX X a.id=0
  · exact .inr (h.chX_class hY' hy ha (hne.resolve_left (fun g=>g c)))
  · exact .inl (h.chX_class hX hx ha c)
 have jump:∀ a∈p.arcs,Hz p (chX X) a.id-Hz p (chX X) (-a.id)=chX X a.id∧Hz p (chX Y) a.id-Hz p (chX Y) (-a.id)=chX Y a.id:=fun a ha=>⟨h.Hz_pos zX ha,h.Hz_pos zY ha⟩
 have ite01:∀ (P:Prop) [Decidable P],(if P then (1:Int) else 0)=0∨(if P then (1:Int) else 0)=1:=fun P _=>by split<;>simp
 by_cases hc:slE p p.arcs.length x=slE p p.arcs.length y
 ·
  refine .inl ⟨fun a ha hne=>?_,by simp [hc],by simp [hc]⟩
  rw [h.hz_add,h.hz_add]
  have hne':chX X a.id+chX Y a.id≠0:=hne
  have hs:slE p p.arcs.length a.id=slE p p.arcs.length x∧slE p p.arcs.length (-a.id)=slE p p.arcs.length x:=by
   rcases sup a ha (by omega) with g | g
   · exact g
   · rw [hc];exact g
  have j:=jump a ha
  have a1:=h.outer_hz hX hpX hx (dm a ha).1 hs.1
  have a2:=h.outer_hz hX hpX hx (dm a ha).2 hs.2
  have a3:=h.outer_hz hY' hpY hy (dm a ha).1 (hs.1.trans hc)
  have a4:=h.outer_hz hY' hpY hy (dm a ha).2 (hs.2.trans hc)
  have b1:=both a.id
  have b2:=both (-a.id)
  have t1:Hz p (chX X) a.id+Hz p (chX Y) a.id=0∨Hz p (chX X) a.id+Hz p (chX Y) a.id=1:=by
   rw [a1,a3]
   by_cases c1:a.id∈X<;>by_cases c2:a.id∈Y<;>simp only [c1,c2,if_true,if_false] at b1 ⊢ <;> simp at b1 ⊢
  have t2:Hz p (chX X) (-a.id)+Hz p (chX Y) (-a.id)=0∨Hz p (chX X) (-a.id)+Hz p (chX Y) (-a.id)=1:=by
   rw [a2,a4]
   by_cases c1:-a.id∈X<;>by_cases c2:-a.id∈Y<;>simp only [c1,c2,if_true,if_false] at b2 ⊢ <;> simp at b2 ⊢
  omega
 ·
  obtain ⟨α01,αc⟩:=h.outer_far hX hpX hx hyd (fun e=>hc e.symm)
  obtain ⟨β01,βc⟩:=h.outer_far hY' hpY hy hxd hc
  have onX:∀ d∈dartsD p,slE p p.arcs.length d=slE p p.arcs.length x→Hz p (chX X) d=(if d∈X then 1 else 0)∧Hz p (chX Y) d=Hz p (chX Y) x:=fun d hd hs=>⟨h.outer_hz hX hpX hx hd hs,βc d hd hs⟩
  have onY:∀ d∈dartsD p,slE p p.arcs.length d=slE p p.arcs.length y→Hz p (chX Y) d=(if d∈Y then 1 else 0)∧Hz p (chX X) d=Hz p (chX X) y:=fun d hd hs=>⟨h.outer_hz hY' hpY hy hd hs,αc d hd hs⟩
  have r1:decide (slE p p.arcs.length x≠slE p p.arcs.length y)=true:=by simpa using hc
  have r2:decide (slE p p.arcs.length y≠slE p p.arcs.length x)=true:=by simpa using fun e=>hc (Eq.symm e)
  rw [r1,r2,Bool.true_and,Bool.true_and]
  generalize Hz p (chX X) y=α at *
  generalize Hz p (chX Y) x=β at *
  rcases α01 with α0 | α1<;>rcases β01 with β0 | β1
  ·
   refine .inl ⟨fun a ha hne=>?_,by simp [α0],by simp [β0]⟩
   rw [h.hz_add,h.hz_add]
   have hne':chX X a.id+chX Y a.id≠0:=hne
   have j:=jump a ha
   rcases sup a ha (by omega) with g | g
   ·
    obtain ⟨e1,e2⟩:=onX _ (dm a ha).1 g.1
    obtain ⟨e3,e4⟩:=onX _ (dm a ha).2 g.2
    have i1:=ite01 (a.id∈X);have i2:=ite01 (-a.id∈X)
    omega
   ·
    obtain ⟨e1,e2⟩:=onY _ (dm a ha).1 g.1
    obtain ⟨e3,e4⟩:=onY _ (dm a ha).2 g.2
    have i1:=ite01 (a.id∈Y);have i2:=ite01 (-a.id∈Y)
    omega
  ·
   have hw:HW p (fun i=>chX Y i + -chX X i):=fun a ha hne=>by
    rw [h.hz_add,h.hz_add,h.hz_neg,h.hz_neg]
    have hne':chX Y a.id + -chX X a.id≠0:=hne
    have j:=jump a ha
    rcases sup a ha (by omega) with g | g
    ·
     obtain ⟨e1,e2⟩:=onX _ (dm a ha).1 g.1
     obtain ⟨e3,e4⟩:=onX _ (dm a ha).2 g.2
     have i1:=ite01 (a.id∈X);have i2:=ite01 (-a.id∈X)
     omega
    ·
     obtain ⟨e1,e2⟩:=onY _ (dm a ha).1 g.1
     obtain ⟨e3,e4⟩:=onY _ (dm a ha).2 g.2
     have i1:=ite01 (a.id∈Y);have i2:=ite01 (-a.id∈Y)
     omega
   refine .inr (.inr ⟨hw,?_,by simp [β1],by simp [α0]⟩)
   have hp:=(h.area_pos (zY.add zX.neg) hw).2 (Classical.byContradiction fun hno=>by
    have:=h.hz_zero (z:=fun i=>chX Y i + -chX X i) (fun a ha=>Classical.byContradiction fun e=>hno ⟨a,ha,e⟩) y
    obtain ⟨e1,e2⟩:=onY y hyd rfl
    rw [h.hz_add,h.hz_neg,e1,e2,if_pos hy] at this
    omega)
   rw [wnS_addz,wnS_negz,← h.ar_chX hX,← h.ar_chX hY'] at hp
   omega
  ·
   have hw:HW p (fun i=>chX X i + -chX Y i):=fun a ha hne=>by
    rw [h.hz_add,h.hz_add,h.hz_neg,h.hz_neg]
    have hne':chX X a.id + -chX Y a.id≠0:=hne
    have j:=jump a ha
    rcases sup a ha (by omega) with g | g
    ·
     obtain ⟨e1,e2⟩:=onX _ (dm a ha).1 g.1
     obtain ⟨e3,e4⟩:=onX _ (dm a ha).2 g.2
     have i1:=ite01 (a.id∈X);have i2:=ite01 (-a.id∈X)
     omega
    ·
     obtain ⟨e1,e2⟩:=onY _ (dm a ha).1 g.1
     obtain ⟨e3,e4⟩:=onY _ (dm a ha).2 g.2
     have i1:=ite01 (a.id∈Y);have i2:=ite01 (-a.id∈Y)
     omega
   refine .inr (.inl ⟨hw,?_,by simp [α1],by simp [β0]⟩)
   have hp:=(h.area_pos (zX.add zY.neg) hw).2 (Classical.byContradiction fun hno=>by
    have:=h.hz_zero (z:=fun i=>chX X i + -chX Y i) (fun a ha=>Classical.byContradiction fun e=>hno ⟨a,ha,e⟩) x
    obtain ⟨e1,e2⟩:=onX x hxd rfl
    rw [h.hz_add,h.hz_neg,e1,e2,if_pos hx] at this
    omega)
   rw [wnS_addz,wnS_negz,← h.ar_chX hX,← h.ar_chX hY'] at hp
   omega
  ·
   exfalso
   obtain ⟨a,ha,hne,hor⟩:=h.not_all (zX.add zY) (Classical.byContradiction fun hno=>by
    have:=h.hz_zero (z:=fun i=>chX X i+chX Y i) (fun a ha=>Classical.byContradiction fun e=>hno ⟨a,ha,e⟩) x
    rw [h.hz_add] at this
    obtain ⟨e1,e2⟩:=onX x hxd rfl
    have i1:=ite01 (x∈X)
    omega)
   have hne':chX X a.id+chX Y a.id≠0:=hne
   rw [h.hz_add,h.hz_add] at hor
   rcases sup a ha (by omega) with g | g
   ·
    obtain ⟨e1,e2⟩:=onX _ (dm a ha).1 g.1
    obtain ⟨e3,e4⟩:=onX _ (dm a ha).2 g.2
    have i1:=ite01 (a.id∈X);have i2:=ite01 (-a.id∈X)
    omega
   ·
    obtain ⟨e1,e2⟩:=onY _ (dm a ha).1 g.1
    obtain ⟨e3,e4⟩:=onY _ (dm a ha).2 g.2
    have i1:=ite01 (a.id∈Y);have i2:=ite01 (-a.id∈Y)
    omega
theorem Valid.arnd_area {X Y:List Int} (hX:X∈outX p) (hY':Y∈outX p) (ha:arnd p X Y=true):arX p Y<arX p X:=by
 by_cases hXY:X=Y
 · subst hXY;unfold arnd at ha;simp at ha
 ·
  rcases h.pair_cases hX hY' hXY with ⟨-,g,-⟩ | ⟨-,g,-⟩ | ⟨-,-,-,g⟩
  · rw [g] at ha;cases ha
  · exact g
  · rw [g] at ha;cases ha
end
structure Place (p:Pl) (φ:(Int→Int)→Int) (off:(Int→Int)→Prop):Prop where
 add:∀ z u,φ (fun i=>z i+u i)=φ z+φ u
 neg:∀ z,φ (fun i=>-z i)=-φ z
 cong:∀ z u,(∀ a∈p.arcs,z a.id=u a.id)→φ z=φ u
 oadd:∀ z u,off z→off u→off (fun i=>z i+u i)
 oneg:∀ z,off z→off (fun i=>-z i)
 w01:∀ z,ClosedC p z→HW p z→off z→φ z=0∨φ z=1
section
variable {p:Pl} (h:Valid p) {φ:(Int→Int)→Int} {off:(Int→Int)→Prop} (hφ:Place p φ off) (ho:∀ X∈outX p,off (chX X))
include h hφ ho
theorem Place.out01 {X:List Int} (hX:X∈outX p):φ (chX X)=0∨φ (chX X)=1:=by
 obtain ⟨h1,h2⟩:=mem_outX.1 hX
 exact hφ.w01 _ (h.chX_closed h1) (h.outer_ok h1 h2) (ho X hX)
theorem Place.two {X Y:List Int} (hX:X∈outX p) (hY':Y∈outX p) (hXY:X≠Y) (e1:φ (chX X)=1) (e2:φ (chX Y)=1):arnd p Y X=true∨arnd p X Y=true:=by
 rcases h.pair_cases hX hY' hXY with ⟨g,-,-⟩ | ⟨-,-,g,-⟩ | ⟨-,-,g,-⟩
 ·
  have:=hφ.w01 _ ((h.chX_closed (mem_outX.1 hX).1).add (h.chX_closed (mem_outX.1 hY').1)) g (hφ.oadd _ _ (ho X hX) (ho Y hY'))
  rw [hφ.add,e1,e2] at this
  omega
 · exact .inr g
 · exact .inl g
theorem Place.up {X Y:List Int} (hX:X∈outX p) (hY':Y∈outX p) (ha:arnd p Y X=true) (e1:φ (chX X)=1):φ (chX Y)=1:=by
 have hXY:X≠Y:=by rintro rfl;unfold arnd at ha;simp at ha
 have e2:=Place.out01 h hφ ho hY'
 rcases h.pair_cases hX hY' hXY with ⟨-,-,g⟩ | ⟨-,-,-,g⟩ | ⟨g,-,-,-⟩
 · rw [g] at ha;cases ha
 · rw [g] at ha;cases ha
 ·
  have:=hφ.w01 _ ((h.chX_closed (mem_outX.1 hY').1).add (h.chX_closed (mem_outX.1 hX).1).neg) g (hφ.oadd _ _ (ho Y hY') (hφ.oneg _ (ho X hX)))
  rw [hφ.add,hφ.neg,e1] at this
  omega
end
end Go.Proofs.YtialfdomhoojiaaGreat
namespace Go.Proofs.YtialfdomhoojiaaGreat
open Go.RowKit
set_option linter.unusedSectionVars false

def sumC_ (L:List (List Int)) (i:Int):Int:=(L.map fun c=>chX c i).sum
theorem Place.zero {p:Pl} {φ:(Int→Int)→Int} {off:(Int→Int)→Prop} (hφ:Place p φ off) {z:Int→Int} (h:∀ a∈p.arcs,z a.id=0):φ z=0:=by
 have e:=hφ.add z z
 have e2:=hφ.cong (fun i=>z i+z i) z (fun a ha=>by rw [h a ha];rfl)
 omega
theorem Place.sum {p:Pl} {φ:(Int→Int)→Int} {off:(Int→Int)→Prop} (hφ:Place p φ off):∀ L:List (List Int),φ (sumC_ L)=(L.map fun c=>φ (chX c)).sum
 | []=>hφ.zero fun a _=>rfl
 | c::L=>by
  rw [List.map_cons,List.sum_cons,← Place.sum hφ L,← hφ.add]
  rfl
theorem sum_flag (l:List (List Int)) (q:List Int→Bool) (F:List Int→Int):((l.filter q).map F).sum=(l.map fun c=>if q c=true then F c else 0).sum:=by
 induction l with
 | nil=>rfl
 | cons c l ih =>
  rw [List.filter_cons,List.map_cons,List.sum_cons]
  by_cases e:q c=true
  · rw [if_pos e,if_pos e,List.map_cons,List.sum_cons,ih]
  · rw [if_neg e,if_neg e,ih];omega
theorem sum_cnt (l:List (List Int)) (q:List Int→Bool):(l.map fun c=>if q c=true then (1:Int) else 0).sum=((l.filter q).length:Int):=by
 induction l with
 | nil=>rfl
 | cons c l ih =>
  rw [List.filter_cons,List.map_cons,List.sum_cons,ih]
  by_cases e:q c=true
  · rw [if_pos e,if_pos e,List.length_cons];omega
  · rw [if_neg e,if_neg e];omega
def partC (p:Pl) (c:List Int):Int:=slE p p.arcs.length (c.headD 0)
section
variable {p:Pl} (h:Valid p)
include h
theorem Valid.head_in {X:List Int} (hX:X∈cyclesD p):X.headD 0∈X:=by
 obtain ⟨x,-,-,ex,hx⟩:=h.cyc_form hX
 rw [ex];exact hx
theorem Valid.partC_of {X:List Int} (hX:X∈cyclesD p) {d:Int} (hd:d∈X):partC p X=slE p p.arcs.length d:=h.cyc_class hX (h.head_in hX) hd
theorem Valid.part_zero (s:Int) {a:Ar} (ha:a∈p.arcs):sumC_ ((cyclesD p).filter fun c=>decide (partC p c=s)) a.id=0:=by
 have one:∀ d∈dartsD p,(((cyclesD p).filter fun c=>decide (partC p c=s)).map fun c=>if d∈c then (1:Int) else 0).sum=if slE p p.arcs.length d=s then 1 else 0:=by
  intro d hd
  obtain ⟨c,hc,hdc,-⟩:=h.head_of hd
  have e:(((cyclesD p).filter fun c=>decide (partC p c=s)).map fun c=>if d∈c then (1:Int) else 0)=(((cyclesD p).filter fun c=>decide (partC p c=s)).map fun c=>if decide (d∈c)=true then (1:Int) else 0):=by
   congr 1;funext c;simp
  rw [e,sum_cnt]
  by_cases g:slE p p.arcs.length d=s
  ·
   rw [if_pos g,filter_uq (h.cycles_nodup.filter _) (x:=c)]
   · rfl
   ·
    rw [List.mem_filter,decide_eq_true_eq,h.partC_of hc hdc]
    exact ⟨hc,g⟩
   · simpa using hdc
   ·
    intro y hy hdy
    exact h.cyc_one (List.mem_filter.1 hy).1 hc (by simpa using hdy) hdc
  ·
   rw [if_neg g,filter_zero]
   · rfl
   ·
    intro y hy hdy
    rw [List.mem_filter,decide_eq_true_eq] at hy
    rw [h.partC_of hy.1 (by simpa using hdy)] at hy
    exact g hy.2
 have hma:a.id∈dartsD p:=mem_dartsD.2 ⟨a,ha,.inl rfl⟩
 have e:sumC_ ((cyclesD p).filter fun c=>decide (partC p c=s)) a.id=(((cyclesD p).filter fun c=>decide (partC p c=s)).map fun c=>if a.id∈c then (1:Int) else 0).sum-(((cyclesD p).filter fun c=>decide (partC p c=s)).map fun c=>if -a.id∈c then (1:Int) else 0).sum:=by
  unfold sumC_ chX
  have:=sumA ((cyclesD p).filter fun c=>decide (partC p c=s)) (fun c=>if a.id∈c then (1:Int) else 0) (fun c=>-(if -a.id∈c then (1:Int) else 0))
  rw [sumN] at this
  simp only [← Int.sub_eq_add_neg] at this
  exact this
 rw [e,one _ hma,one _ (neg_dart hma),h.sl_dart hma]
 omega
theorem Valid.part_inner {r:Int} (hr:r∈dartsD p):∃ c∈resX p,partC p c=slE p p.arcs.length r∧∀ X∈cyclesD p,partC p X=slE p p.arcs.length r→X≠c→X∈outX p:=by
 obtain ⟨d0,g1,g2,g3⟩:=h.top_dart hr
 obtain ⟨c,hc,hdc,-⟩:=h.head_of g1
 have key:∀ X∈cyclesD p,partC p X=slE p p.arcs.length r→(0<arX p X↔d0∉X):=fun X hX e=>by
  have hh:=h.head_in hX
  have e':slE p p.arcs.length (X.headD 0)=slE p p.arcs.length r:=e
  exact h.cyc_sign hX hh g1 (by rw [g2,e']) (fun z hz hs=>g3 z hz (fun a ha hne=>by rw [hs a ha hne,e']))
 have ec:partC p c=slE p p.arcs.length r:=by rw [h.partC_of hc hdc,g2]
 refine ⟨c,mem_resX.2 ⟨hc,fun hp=>((key c hc ec).1 hp) hdc⟩,ec,fun X hX e hne=>mem_outX.2 ⟨hX,(key X hX e).2 fun hd=>hne (h.cyc_one hX hc hd hdc)⟩⟩
theorem Valid.cycPt_arc {X:List Int} (hX:X∈cyclesD p):∃ a∈p.arcs,(X.headD 0=a.id∨X.headD 0=-a.id)∧cycPt p X=(pathS p a).getD 0 pt0∧slE p p.arcs.length a.id=partC p X:=by
 have hd:=(h.cyc_nodup hX).2 _ (h.head_in hX)
 obtain ⟨a,ha,hor,hpt⟩:=h.pth_dart hd
 refine ⟨a,ha,hor,by unfold cycPt;rw [hpt],?_⟩
 have hma:a.id∈dartsD p:=mem_dartsD.2 ⟨a,ha,.inl rfl⟩
 unfold partC
 rcases hor with e | e
 · rw [e]
 · rw [e,h.sl_dart hma]
theorem Valid.home_partC {X Y:List Int} (hX:X∈cyclesD p) (hY':Y∈cyclesD p) (e:partC p X=partC p Y):homeP p (cycPt p X)=homeP p (cycPt p Y):=by
 obtain ⟨a,ha,-,e1,e2⟩:=h.cycPt_arc hX
 obtain ⟨b,hb,-,e3,e4⟩:=h.cycPt_arc hY'
 rw [e1,e3]
 have la:=pathS_length p a
 have lb:=pathS_length p b
 exact h.home_part ha hb (by rw [e2,e4,e]) (by omega) (by omega)
theorem Valid.enc_arnd {Z Y:List Int} (hZ:Z∈outX p) (hY':Y∈cyclesD p):encS p Z (cycPt p Y)=arnd p Z Y:=by
 obtain ⟨a,ha,hor,e1,e2⟩:=h.cycPt_arc hY'
 have hZ':=mem_outX.1 hZ
 have la:=pathS_length p a
 have hk:0<(pathS p a).length:=by omega
 have hh:=h.head_in hZ'.1
 rw [e1]
 unfold arnd
 by_cases c:slE p p.arcs.length (Z.headD 0)=slE p p.arcs.length (Y.headD 0)
 ·
  rw [h.enc_own hZ hh ha (by rw [e2,c];rfl) hk]
  rw [decide_eq_false (by simpa using c)]
  rfl
 ·
  have hs:slE p p.arcs.length a.id≠slE p p.arcs.length (Z.headD 0):=fun g=>c (by rw [← g,e2];rfl)
  have o1:=h.apart_off hZ'.1 hh ha hs hk
  obtain ⟨w1,w2⟩:=h.wnY_arc (h.chX_closed hZ'.1) ha hk (h.off_of (h.pt_near ha hk) o1)
  rw [Bool.eq_iff_iff,h.enc_iff hZ'.1 hZ'.2 (h.pt_near ha hk),w1]
  have e3:Hz p (chX Z) a.id=Hz p (chX Z) (Y.headD 0):=by
   rcases hor with e | e
   · rw [e]
   · rw [e,w2]
  rw [e3,decide_eq_true (show slE p p.arcs.length (Z.headD 0)≠slE p p.arcs.length (Y.headD 0) from c),Bool.true_and,decide_eq_true_eq]
  exact ⟨fun g=>g.2,fun g=>⟨o1,g⟩⟩
theorem Valid.home_arnd {Y:List Int} (hY':Y∈cyclesD p):homeP p (cycPt p Y)=bestC (fun Z=>arnd p Z Y) (arX p) (outX p) :=
 best_congr fun Z hZ=>⟨h.enc_arnd hZ hY',rfl⟩
end
section
variable {p:Pl} (h:Valid p) {φ:(Int→Int)→Int} {off:(Int→Int)→Prop} (hφ:Place p φ off) (ho:∀ X∈outX p,off (chX X))
include h hφ
theorem Place.inner {c:List Int} (hc:c∈resX p):φ (chX c)=-((outX p).map fun Y=>if partC p Y=partC p c then φ (chX Y) else 0).sum:=by
 obtain ⟨hc1,hc2⟩:=mem_resX.1 hc
 have hcd:=(h.cyc_nodup hc1).2 _ (h.head_in hc1)
 obtain ⟨c0,hc0,e0,hu⟩:=h.part_inner hcd
 have hcc:c=c0:=Classical.byContradiction fun g=>hc2 (mem_outX.1 (hu c hc1 rfl g)).2
 subst hcc
 have hs:=hφ.sum ((cyclesD p).filter fun X=>decide (partC p X=partC p c))
 rw [hφ.zero (fun a ha=>h.part_zero (partC p c) ha),sum_flag] at hs
 have e:((cyclesD p).map fun X=>if decide (partC p X=partC p c)=true then φ (chX X) else 0).sum=((outX p).map fun X=>if partC p X=partC p c then φ (chX X) else 0).sum+((resX p).map fun X=>if partC p X=partC p c then φ (chX X) else 0).sum:=by
  unfold outX resX
  rw [sum_flag,sum_flag,← sumA]
  refine sumC _ _ _ fun X hX=>?_
  by_cases g:0<arX p X<;>simp [g]
 have e2:((resX p).map fun X=>if partC p X=partC p c then φ (chX X) else 0).sum=φ (chX c):=by
  have:∀ X∈resX p,(if partC p X=partC p c then φ (chX X) else 0)=if decide (X=c)=true then φ (chX c) else 0:=fun X hX=>by
   by_cases g:X=c
   · subst g;simp
   ·
    have h1:=mem_resX.1 hX
    have n1:¬ partC p X=partC p c:=fun e=>h1.2 (mem_outX.1 (hu X h1.1 e g)).2
    rw [if_neg n1,if_neg (by simpa using g)]
  rw [sumC _ _ _ this,← sum_flag]
  have hf:((resX p).filter fun X=>decide (X=c)).length=1:=filter_uq (h.cycles_nodup.filter _) hc (by simp) (fun y _ hy=>by simpa using hy)
  match hm:(resX p).filter fun X=>decide (X=c),hf with
  | [Z],_=>simp
 rw [e,e2] at hs
 omega
theorem Place.region (b:Option (List Int)):φ (sumC_ (innX p b))=-((outX p).map fun Y=>if homeP p (cycPt p Y)=b then φ (chX Y) else 0).sum:=by
 rw [hφ.sum]
 have e1:((innX p b).map fun c=>φ (chX c))=(innX p b).map fun c=>-((outX p).map fun Y=>if partC p Y=partC p c then φ (chX Y) else 0).sum:=by
  refine List.map_congr_left fun c hc=>?_
  exact Place.inner h hφ (List.mem_filter.1 hc).1
 rw [e1,sumN,sumS]
 congr 1
 refine sumC _ _ _ fun Y hY=>?_
 have hY':=mem_outX.1 hY
 obtain ⟨c0,hc0,e0,hu⟩:=h.part_inner ((h.cyc_nodup hY'.1).2 _ (h.head_in hY'.1))
 have hc0':=mem_resX.1 hc0
 have hh:=h.home_partC hc0'.1 hY'.1 e0
 have e2:((innX p b).map fun c=>if partC p Y=partC p c then φ (chX Y) else 0)=(innX p b).map fun c=>φ (chX Y)*(if decide (partC p Y=partC p c)=true then 1 else 0):=by
  refine List.map_congr_left fun c _=>?_
  by_cases g:partC p Y=partC p c<;>simp [g]
 rw [e2,sumM,sum_cnt]
 by_cases g:homeP p (cycPt p Y)=b
 ·
  rw [if_pos g,filter_uq (l:=innX p b) ((h.cycles_nodup.filter _).filter _) (x:=c0)]
  · simp
  ·
   unfold innX
   rw [List.mem_filter,decide_eq_true_eq]
   exact ⟨hc0,by rw [hh];exact g⟩
  · rw [decide_eq_true_eq];exact e0.symm
  ·
   intro c hc hq
   rw [decide_eq_true_eq] at hq
   have h1:=mem_resX.1 (List.mem_filter.1 hc).1
   exact Classical.byContradiction fun g=>h1.2 (mem_outX.1 (hu c h1.1 hq.symm g)).2
 ·
  rw [if_neg g,filter_zero]
  · simp
  ·
   intro c hc hq
   rw [decide_eq_true_eq] at hq
   unfold innX at hc
   rw [List.mem_filter,decide_eq_true_eq] at hc
   have h1:=mem_resX.1 hc.1
   exact g (by rw [← hc.2];exact h.home_partC hY'.1 h1.1 hq)
include ho
theorem Place.home {X:List Int} (hX:X∈outX p):φ (sumC_ (cysX p (some X)))=if bestC (fun Y=>decide (φ (chX Y)=1)) (arX p) (outX p)=some X then 1 else 0:=by
 have hn:(outX p).Nodup:=h.outX_nodup
 have e1:φ (sumC_ (cysX p (some X)))=φ (chX X)+φ (sumC_ (innX p (some X))):=by
  rw [← hφ.add]
  rfl
 have h01:=fun Y hY=>Place.out01 h hφ ho (X:=Y) hY
 have cs:=chain_some hn (E:=fun Y=>decide (φ (chX Y)=1)) (ar:=arX p) (A:=arnd p)
  (fun Y hY Z hZ e1 e2 hne=>by
   rcases Place.two h hφ ho hY hZ hne (by simpa using e1) (by simpa using e2) with g | g
   · exact .inl g
   · exact .inr g)
  (fun Y hY Z hZ g=>h.arnd_area hZ hY g)
  (fun Y hY Z hZ g e=>by
   have:=Place.up h hφ ho hY hZ g (by simpa using e)
   simpa using this) hX
 rw [e1,Place.region h hφ]
 have e2:((outX p).map fun Y=>if homeP p (cycPt p Y)=some X then φ (chX Y) else 0).sum=(((outX p).filter fun Y=>decide (φ (chX Y)=1) && decide (bestC (fun Z=>arnd p Z Y) (arX p) (outX p)=some X)).length:Int):=by
  rw [← sum_cnt]
  refine sumC _ _ _ fun Y hY=>?_
  rw [h.home_arnd (mem_outX.1 hY).1]
  by_cases g:bestC (fun Z=>arnd p Z Y) (arX p) (outX p)=some X
  ·
   rw [if_pos g,decide_eq_true g,Bool.and_true]
   rcases h01 Y hY with e | e
   · rw [e];rfl
   · rw [e];rfl
  ·
   rw [if_neg g,decide_eq_false g,Bool.and_false]
   rfl
 rw [e2,cs]
 have key:∀ c b:Int,c=0∨c=1→c + -((if decide (c=1)=true then 1 else 0)-b)=b:=by
  intro c b hc
  rcases hc with rfl | rfl<;>simp<;>omega
 exact key _ _ (h01 X hX)
end
end Go.Proofs.YtialfdomhoojiaaGreat
namespace Go.Proofs.YtialfdomhoojiaaGreat
open Go.RowKit
set_option linter.unusedSectionVars false

section
variable {p:Pl} (h:Valid p)
include h
theorem Valid.seg_mod {X:List Int} (hX:X∈cyclesD p) (f:Pt×Pt→Int) (g:Pt→Pt→Int) (hfg:∀ a b,f (a,b) % 2=g a b % 2):((segX p X).map f).sum % 2=wnS p (chX X) g % 2:=by
 obtain ⟨-,h2⟩:=h.cyc_nodup hX
 have e1:((segX p X).map f).sum=(X.map fun d=>stp (fun a b=>f (a,b)) (pthD p d)).sum:=by
  unfold segX
  rw [List.map_flatMap,sumFl]
  refine sumC _ _ _ fun d _=>?_
  unfold segL stp
  rw [List.map_map]
  rfl
 rw [e1,h.sum_cyc hX]
 unfold wnS
 refine sumMod _ _ _ fun a ha=>?_
 have hid:=(h.id_pos ha).1
 have p1:pthD p a.id=pathS p a:=by
  unfold pthD
  rw [show absI a.id=a.id by unfold absI;split<;>omega,h.find ha]
 have p2:pthD p (-a.id)=pathS p a:=by
  unfold pthD
  rw [show absI (-a.id)=a.id by unfold absI;split<;>omega,h.find ha]
 rw [p1,p2]
 have e:stp (fun a b=>f (a,b)) (pathS p a) % 2=stp g (pathS p a) % 2:=by
  unfold stp
  exact sumMod _ _ _ fun k _=>hfg _ _
 generalize stp (fun a b=>f (a,b)) (pathS p a)=s at *
 generalize stp g (pathS p a)=t at *
 unfold chX
 by_cases c1:a.id∈X<;>by_cases c2:-a.id∈X<;>simp only [c1,c2,if_true,if_false]<;>omega
theorem Valid.segs_mod {L:List (List Int)} (hL:∀ X∈L,X∈cyclesD p∨X=[]) (f:Pt×Pt→Int) (g:Pt→Pt→Int) (hfg:∀ a b,f (a,b) % 2=g a b % 2):((L.flatMap (segX p)).map f).sum % 2=wnS p (sumC_ L) g % 2:=by
 induction L with
 | nil =>
  have:wnS p (sumC_ []) g=0:=wnS_none fun a ha=>.inl rfl
  rw [this];rfl
 | cons X L ih =>
  rw [List.flatMap_cons,List.map_append,List.sum_append]
  have e:wnS p (sumC_ (X::L)) g=wnS p (chX X) g+wnS p (sumC_ L) g:=by
   rw [← wnS_addz]
   rfl
  have ih:=ih (fun Y hY=>hL Y (List.mem_cons_of_mem _ hY))
  rw [e]
  rcases hL X List.mem_cons_self with hX | hX
  ·
   have:=h.seg_mod hX f g hfg
   omega
  ·
   subst hX
   have:wnS p (chX []) g=0:=wnS_none fun a ha=>.inl rfl
   rw [this]
   have e2:((segX p []).map f).sum=0:=rfl
   omega
end
end Go.Proofs.YtialfdomhoojiaaGreat
namespace Go.Proofs.YtialfdomhoojiaaGreat
open Go.RowKit
set_option linter.unusedSectionVars false

theorem tw_low (a b v:Pt):tw (lowP a b) (highP a b) v=if b.y<a.y then -tw a b v else tw a b v:=by
 unfold lowP highP
 split
 · unfold tw;grind
 · rfl
theorem crs_le {y:Int} {q:Pt×Pt} {x:Int}:((crsS y q).countP (fun c=>decide (c≤x)):Int)+(if pasE ⟨x,y⟩ q.1 q.2=true then 1 else 0)=(crsS y q).length:=by
 obtain ⟨a,b⟩:=q
 have hp:pasE ⟨x,y⟩ a b=decide ((lowP a b).y≤y∧y<(highP a b).y∧0<tw (lowP a b) (highP a b) ⟨x,y⟩):=by
  rw [tw_low]
  unfold pasE lowP highP
  rw [decide_eq_decide]
  show (a.y≤y∧y<b.y∧0<tw a b ⟨x,y⟩)∨(b.y≤y∧y<a.y∧tw a b ⟨x,y⟩<0)↔_
  split<;>omega
 rw [hp]
 unfold crsS
 by_cases g:(lowP a b).y≤y∧y<(highP a b).y
 ·
  rw [if_pos g]
  have hH:0<(highP a b).y-(lowP a b).y:=by omega
  have e:(lowP a b).x+atRow y a b≤x↔¬ 0<tw (lowP a b) (highP a b) ⟨x,y⟩:=by
   unfold atRow
   have:=ceilQ_le (r:=(y-(lowP a b).y)*((highP a b).x-(lowP a b).x)) (t:=x-(lowP a b).x) hH
   unfold tw
   simp only
   rw [Int.mul_comm ((highP a b).x-(lowP a b).x),Int.mul_comm ((highP a b).y-(lowP a b).y)]
   omega
  by_cases c:0<tw (lowP a b) (highP a b) ⟨x,y⟩
  ·
   have e':¬ (lowP a b).x+atRow y a b≤x:=fun g=>e.1 g c
   simp [g,c,e']
  ·
   have e':=e.2 c
   simp [c,e']
 ·
  rw [if_neg g]
  have:¬ ((lowP a b).y≤y∧y<(highP a b).y∧0<tw (lowP a b) (highP a b) ⟨x,y⟩):=fun c=>g ⟨c.1,c.2.1⟩
  simp [this]
theorem crs_len (y:Int) (a b:Pt):((crsS y (a,b)).length:Int) % 2=((if y<b.y then 1 else 0)-(if y<a.y then 1 else 0)) % 2:=by
 unfold crsS lowP highP
 by_cases c:b.y<a.y
 ·
  simp only [c,if_true]
  by_cases c1:b.y≤y∧y<a.y
  · rw [if_pos c1,if_neg (by omega),if_pos c1.2];rfl
  ·
   rw [if_neg c1]
   by_cases c2:y<b.y
   · rw [if_pos c2,if_pos (by omega)];rfl
   · rw [if_neg c2,if_neg (by omega)];rfl
 ·
  simp only [c,if_false]
  by_cases c1:a.y≤y∧y<b.y
  · rw [if_pos c1,if_pos c1.2,if_neg (by omega)];rfl
  ·
   rw [if_neg c1]
   by_cases c2:y<a.y
   · rw [if_pos c2,if_pos (by omega)];rfl
   · rw [if_neg c2,if_neg (by omega)];rfl
theorem pair_iff (x:Int):∀ (n:Nat) (l:List Int),l.length=n→l.Pairwise (·≤·)→l.length % 2=0→(inR (gapR l) x↔(l.countP (fun c=>decide (c≤x))) % 2=1)
 | _,[],_,_,_=>by unfold gapR;exact ⟨fun g=>absurd g (inR_nil _),fun g=>by simp at g⟩
 | _,[a],_,_,h=>by simp at h
 | 0,a::b::l,hn,_,_=>by simp at hn
 | 1,a::b::l,hn,_,_=>by simp at hn
 | n+2,a::b::l,hn,hs,h=>by
  have h1:=List.pairwise_cons.1 hs
  have h2:=List.pairwise_cons.1 h1.2
  have ih:=pair_iff x n l (by simpa using hn) h2.2 (by simp only [List.length_cons] at h;omega)
  have hab:=h1.1 b List.mem_cons_self
  unfold gapR
  rw [inR_append,inR_add,ih]
  by_cases c1:a≤x
  ·
   by_cases c2:b≤x
   ·
    rw [List.countP_cons_of_pos (by simpa using c1),List.countP_cons_of_pos (by simpa using c2)]
    omega
   ·
    have:l.countP (fun c=>decide (c≤x))=0:=by
     rw [List.countP_eq_zero]
     intro c hc
     have:=h2.1 c hc
     simp;omega
    rw [List.countP_cons_of_pos (by simpa using c1),List.countP_cons_of_neg (by simpa using c2),this]
    omega
  ·
   have:(a::b::l).countP (fun c=>decide (c≤x))=0:=by
    rw [List.countP_eq_zero]
    intro c hc
    rcases List.mem_cons.1 hc with rfl | hc
    · simpa using c1
    ·
     have:=h1.1 c hc
     simp;omega
   have h3:l.countP (fun c=>decide (c≤x))=0:=by
    rw [List.countP_eq_zero] at this ⊢
    exact fun c hc=>this c (List.mem_cons_of_mem _ (List.mem_cons_of_mem _ hc))
   rw [this,h3]
   omega
theorem countP_sum (y x:Int):∀ S:List (Pt×Pt),((S.flatMap (crsS y)).countP (fun c=>decide (c≤x)):Int)+(S.map fun q=>if pasE ⟨x,y⟩ q.1 q.2=true then (1:Int) else 0).sum=(S.flatMap (crsS y)).length
 | []=>rfl
 | q::S=>by
  have e:=crs_le (y:=y) (q:=q) (x:=x)
  have ih:=countP_sum y x S
  rw [List.flatMap_cons,List.countP_append,List.length_append,List.map_cons,List.sum_cons]
  omega
theorem len_sum (y:Int):∀ S:List (Pt×Pt),(((S.flatMap (crsS y)).length:Nat):Int)=(S.map fun q=>((crsS y q).length:Int)).sum
 | []=>rfl
 | q::S=>by
  have ih:=len_sum y S
  rw [List.flatMap_cons,List.length_append,List.map_cons,List.sum_cons]
  omega
section
variable {p:Pl} (h:Valid p)
include h
theorem Valid.cys_mem {X:List Int} (hX:X∈outX p) {c:List Int} (hc:c∈cysX p (some X)):c∈cyclesD p:=by
 unfold cysX at hc
 rcases List.mem_cons.1 hc with rfl | hc
 · exact (mem_outX.1 hX).1
 · exact (mem_resX.1 (List.mem_filter.1 hc).1).1
theorem Valid.sumC_closed {L:List (List Int)} (hL:∀ c∈L,c∈cyclesD p):ClosedC p (sumC_ L):=by
 induction L with
 | nil=>exact fun n _=>sumZ _ _ fun a _=>by show (0:Int)*_=0;rw [Int.zero_mul]
 | cons c L ih=>exact (h.chX_closed (hL c List.mem_cons_self)).add (ih fun d hd=>hL d (List.mem_cons_of_mem _ hd))
theorem Valid.runs_odd {X:List Int} (hX:X∈outX p) (x y:Int):((segB p (some X)).flatMap (crsS y)).length % 2=0 ∧
  (((segB p (some X)).flatMap (crsS y)).countP (fun c=>decide (c≤x)) % 2=1↔wnY p (sumC_ (cysX p (some X))) ⟨x,y⟩ % 2=1):=by
 have hL:∀ c∈cysX p (some X),c∈cyclesD p∨c=[]:=fun c hc=>.inl (h.cys_mem hX hc)
 have e1:=h.segs_mod hL (fun q=>((crsS y q).length:Int)) (fun a b=>(if y<b.y then 1 else 0)-(if y<a.y then 1 else 0)) (fun a b=>crs_len y a b)
 rw [h.tele (h.sumC_closed fun c hc=>h.cys_mem hX hc) (fun u=>if y<u.y then 1 else 0)] at e1
 have e2:=len_sum y (segB p (some X))
 have e3:=countP_sum y x (segB p (some X))
 have e4:=h.segs_mod hL (fun q=>if pasE ⟨x,y⟩ q.1 q.2=true then (1:Int) else 0) (crY ⟨x,y⟩) (fun a b=>by
  show (if pasE ⟨x,y⟩ a b=true then (1:Int) else 0) % 2=_
  rw [pasE_cr]
  unfold crY
  split
  · rfl
  · split<;>rfl)
 unfold wnY
 unfold segB at e2 e3 ⊢
 omega
theorem Valid.segB_mem {X:List Int} (hX:X∈outX p) {q:Pt×Pt} (hq:q∈segB p (some X)):∃ a∈p.arcs,(∃ c∈cysX p (some X),a.id∈c∨-a.id∈c)∧∃ k,k+1<(pathS p a).length∧q=((pathS p a).getD k pt0,(pathS p a).getD (k+1) pt0):=by
 obtain ⟨c,hc,hq⟩:=List.mem_flatMap.1 hq
 obtain ⟨a,ha,hor,k,hk,e⟩:=h.seg_mem (h.cyc_nodup (h.cys_mem hX hc)).2 hq
 exact ⟨a,ha,⟨c,hc,hor⟩,k,hk,e⟩
end
end Go.Proofs.YtialfdomhoojiaaGreat
