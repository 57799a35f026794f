import Derived.Test.YtnhdmghgjngcaaaGreatJ12
import Derived.Test.YtnhdmghgjngcaaaGreatJ13
import Derived.Test.YtnhdmghgjngcaaaGreatJ22
set_option linter.unusedSimpArgs false
set_option linter.unusedVariables false
namespace Go.Proofs.YtnhdmghgjngcaaaGreat
open Go.RowKit
set_option linter.unusedSectionVars false

def arnd (p:Pl) (Z Y:List Int):Bool:=decide (slE p p.arcs.length (Z.headD 0)≠slE p p.arcs.length (Y.headD 0)) && decide (Hz p (chX Z) (Y.headD 0)=1)
def HW (p:Pl) (z:Int→Int):Prop:=∀ a∈p.arcs,z a.id≠0→(Hz p z (-a.id)=0∧Hz p z a.id=1)∨(Hz p z (-a.id)=1∧Hz p z a.id=0)
section
variable {p:Pl} (h:Valid p)
include h
theorem Valid.pair_cases {X Y:List Int} (hX:X∈outX p) (hY':Y∈outX p) (hXY:X≠Y) :
  (HW p (fun i=>chX X i+chX Y i)∧arnd p X Y=false∧arnd p Y X=false) ∨
  (HW p (fun i=>chX X i + -chX Y i)∧arX p Y<arX p X∧arnd p X Y=true∧arnd p Y X=false) ∨
  (HW p (fun i=>chX Y i + -chX X i)∧arX p X<arX p Y∧arnd p Y X=true∧arnd p X Y=false):=by
 obtain ⟨hX,hpX⟩:=mem_outX.1 hX
 obtain ⟨hY',hpY⟩:=mem_outX.1 hY'
 obtain ⟨x,hxd,-,ex,hx⟩:=h.cyc_form hX
 obtain ⟨y,hyd,-,ey,hy⟩:=h.cyc_form hY'
 unfold arnd
 rw [ex,ey]
 have zX:=h.chX_closed hX
 have zY:=h.chX_closed hY'
 have both:∀ d,¬ (d∈X∧d∈Y):=fun d hd=>hXY (h.cyc_one hX hY' hd.1 hd.2)
 have dm:∀ a∈p.arcs,a.id∈dartsD p∧-a.id∈dartsD p:=fun a ha=>⟨mem_dartsD.2 ⟨a,ha,.inl rfl⟩,mem_dartsD.2 ⟨a,ha,.inr rfl⟩⟩
 have sup:∀ a∈p.arcs,(chX X a.id≠0∨chX Y a.id≠0)→(slE p p.arcs.length a.id=slE p p.arcs.length x∧slE p p.arcs.length (-a.id)=slE p p.arcs.length x)∨(slE p p.arcs.length a.id=slE p p.arcs.length y∧slE p p.arcs.length (-a.id)=slE p p.arcs.length y):=by
  intro a ha hne
  by_cases c:chX X a.id=0
  · exact .inr (h.chX_class hY' hy ha (hne.resolve_left (fun g=>g c)))
  · exact .inl (h.chX_class hX hx ha c)
 have jump:∀ a∈p.arcs,Hz p (chX X) a.id-Hz p (chX X) (-a.id)=chX X a.id∧Hz p (chX Y) a.id-Hz p (chX Y) (-a.id)=chX Y a.id:=fun a ha=>⟨h.Hz_pos zX ha,h.Hz_pos zY ha⟩
 have ite01:∀ (P:Prop) [Decidable P],(if P then (1:Int) else 0)=0∨(if P then (1:Int) else 0)=1:=fun P _=>by split<;>simp
 by_cases hc:slE p p.arcs.length x=slE p p.arcs.length y
 ·
  refine .inl ⟨fun a ha hne=>?_,by simp [hc],by simp [hc]⟩
  rw [h.hz_add,h.hz_add]
  have hne':chX X a.id+chX Y a.id≠0:=hne
  have hs:slE p p.arcs.length a.id=slE p p.arcs.length x∧slE p p.arcs.length (-a.id)=slE p p.arcs.length x:=by
   rcases sup a ha (by omega) with g | g
   · exact g
   · rw [hc];exact g
  have j:=jump a ha
  have a1:=h.outer_hz hX hpX hx (dm a ha).1 hs.1
  have a2:=h.outer_hz hX hpX hx (dm a ha).2 hs.2
  have a3:=h.outer_hz hY' hpY hy (dm a ha).1 (hs.1.trans hc)
  have a4:=h.outer_hz hY' hpY hy (dm a ha).2 (hs.2.trans hc)
  have b1:=both a.id
  have b2:=both (-a.id)
  have t1:Hz p (chX X) a.id+Hz p (chX Y) a.id=0∨Hz p (chX X) a.id+Hz p (chX Y) a.id=1:=by
   rw [a1,a3]
   by_cases c1:a.id∈X<;>by_cases c2:a.id∈Y<;>simp only [c1,c2,if_true,if_false] at b1 ⊢ <;> simp at b1 ⊢
  have t2:Hz p (chX X) (-a.id)+Hz p (chX Y) (-a.id)=0∨Hz p (chX X) (-a.id)+Hz p (chX Y) (-a.id)=1:=by
   rw [a2,a4]
   by_cases c1:-a.id∈X<;>by_cases c2:-a.id∈Y<;>simp only [c1,c2,if_true,if_false] at b2 ⊢ <;> simp at b2 ⊢
  omega
 ·
  obtain ⟨α01,αc⟩:=h.outer_far hX hpX hx hyd (fun e=>hc e.symm)
  obtain ⟨β01,βc⟩:=h.outer_far hY' hpY hy hxd hc
  have onX:∀ d∈dartsD p,slE p p.arcs.length d=slE p p.arcs.length x→Hz p (chX X) d=(if d∈X then 1 else 0)∧Hz p (chX Y) d=Hz p (chX Y) x:=fun d hd hs=>⟨h.outer_hz hX hpX hx hd hs,βc d hd hs⟩
  have onY:∀ d∈dartsD p,slE p p.arcs.length d=slE p p.arcs.length y→Hz p (chX Y) d=(if d∈Y then 1 else 0)∧Hz p (chX X) d=Hz p (chX X) y:=fun d hd hs=>⟨h.outer_hz hY' hpY hy hd hs,αc d hd hs⟩
  have r1:decide (slE p p.arcs.length x≠slE p p.arcs.length y)=true:=by simpa using hc
  have r2:decide (slE p p.arcs.length y≠slE p p.arcs.length x)=true:=by simpa using fun e=>hc (Eq.symm e)
  rw [r1,r2,Bool.true_and,Bool.true_and]
  generalize Hz p (chX X) y=α at *
  generalize Hz p (chX Y) x=β at *
  rcases α01 with α0 | α1<;>rcases β01 with β0 | β1
  ·
   refine .inl ⟨fun a ha hne=>?_,by simp [α0],by simp [β0]⟩
   rw [h.hz_add,h.hz_add]
   have hne':chX X a.id+chX Y a.id≠0:=hne
   have j:=jump a ha
   rcases sup a ha (by omega) with g | g
   ·
    obtain ⟨e1,e2⟩:=onX _ (dm a ha).1 g.1
    obtain ⟨e3,e4⟩:=onX _ (dm a ha).2 g.2
    have i1:=ite01 (a.id∈X);have i2:=ite01 (-a.id∈X)
    omega
   ·
    obtain ⟨e1,e2⟩:=onY _ (dm a ha).1 g.1
    obtain ⟨e3,e4⟩:=onY _ (dm a ha).2 g.2
    have i1:=ite01 (a.id∈Y);have i2:=ite01 (-a.id∈Y)
    omega
  ·
   have hw:HW p (fun i=>chX Y i + -chX X i):=fun a ha hne=>by
    rw [h.hz_add,h.hz_add,h.hz_neg,h.hz_neg]
    have hne':chX Y a.id + -chX X a.id≠0:=hne
    have j:=jump a ha
    rcases sup a ha (by omega) with g | g
    ·
     obtain ⟨e1,e2⟩:=onX _ (dm a ha).1 g.1
     obtain ⟨e3,e4⟩:=onX _ (dm a ha).2 g.2
     have i1:=ite01 (a.id∈X);have i2:=ite01 (-a.id∈X)
     omega
    ·
     obtain ⟨e1,e2⟩:=onY _ (dm a ha).1 g.1
     obtain ⟨e3,e4⟩:=onY _ (dm a ha).2 g.2
     have i1:=ite01 (a.id∈Y);have i2:=ite01 (-a.id∈Y)
     omega
   refine .inr (.inr ⟨hw,?_,by simp [β1],by simp [α0]⟩)
   have hp:=(h.area_pos (zY.add zX.neg) hw).2 (Classical.byContradiction fun hno=>by
    have:=h.hz_zero (z:=fun i=>chX Y i + -chX X i) (fun a ha=>Classical.byContradiction fun e=>hno ⟨a,ha,e⟩) y
    obtain ⟨e1,e2⟩:=onY y hyd rfl
    rw [h.hz_add,h.hz_neg,e1,e2,if_pos hy] at this
    omega)
   rw [wnS_addz,wnS_negz,← h.ar_chX hX,← h.ar_chX hY'] at hp
   omega
  ·
   have hw:HW p (fun i=>chX X i + -chX Y i):=fun a ha hne=>by
    rw [h.hz_add,h.hz_add,h.hz_neg,h.hz_neg]
    have hne':chX X a.id + -chX Y a.id≠0:=hne
    have j:=jump a ha
    rcases sup a ha (by omega) with g | g
    ·
     obtain ⟨e1,e2⟩:=onX _ (dm a ha).1 g.1
     obtain ⟨e3,e4⟩:=onX _ (dm a ha).2 g.2
     have i1:=ite01 (a.id∈X);have i2:=ite01 (-a.id∈X)
     omega
    ·
     obtain ⟨e1,e2⟩:=onY _ (dm a ha).1 g.1
     obtain ⟨e3,e4⟩:=onY _ (dm a ha).2 g.2
     have i1:=ite01 (a.id∈Y);have i2:=ite01 (-a.id∈Y)
     omega
   refine .inr (.inl ⟨hw,?_,by simp [α1],by simp [β0]⟩)
   have hp:=(h.area_pos (zX.add zY.neg) hw).2 (Classical.byContradiction fun hno=>by
    have:=h.hz_zero (z:=fun i=>chX X i + -chX Y i) (fun a ha=>Classical.byContradiction fun e=>hno ⟨a,ha,e⟩) x
    obtain ⟨e1,e2⟩:=onX x hxd rfl
    rw [h.hz_add,h.hz_neg,e1,e2,if_pos hx] at this
    omega)
   rw [wnS_addz,wnS_negz,← h.ar_chX hX,← h.ar_chX hY'] at hp
   omega
  ·
   exfalso
   obtain ⟨a,ha,hne,hor⟩:=h.not_all (zX.add zY) (Classical.byContradiction fun hno=>by
    have:=h.hz_zero (z:=fun i=>chX X i+chX Y i) (fun a ha=>Classical.byContradiction fun e=>hno ⟨a,ha,e⟩) x
    rw [h.hz_add] at this
    obtain ⟨e1,e2⟩:=onX x hxd rfl
    have i1:=ite01 (x∈X)
    omega)
   have hne':chX X a.id+chX Y a.id≠0:=hne
   rw [h.hz_add,h.hz_add] at hor
   rcases sup a ha (by omega) with g | g
   ·
    obtain ⟨e1,e2⟩:=onX _ (dm a ha).1 g.1
    obtain ⟨e3,e4⟩:=onX _ (dm a ha).2 g.2
    have i1:=ite01 (a.id∈X);have i2:=ite01 (-a.id∈X)
    omega
   ·
    obtain ⟨e1,e2⟩:=onY _ (dm a ha).1 g.1
    obtain ⟨e3,e4⟩:=onY _ (dm a ha).2 g.2
    have i1:=ite01 (a.id∈Y);have i2:=ite01 (-a.id∈Y)
    omega
end
structure Place (p:Pl) (φ:(Int→Int)→Int) (off:(Int→Int)→Prop):Prop where
 add:∀ z u,φ (fun i=>z i+u i)=φ z+φ u
 neg:∀ z,φ (fun i=>-z i)=-φ z
 cong:∀ z u,(∀ a∈p.arcs,z a.id=u a.id)→φ z=φ u
 oadd:∀ z u,off z→off u→off (fun i=>z i+u i)
 oneg:∀ z,off z→off (fun i=>-z i)
 w01:∀ z,ClosedC p z→HW p z→off z→φ z=0∨φ z=1
section
variable {p:Pl} (h:Valid p) {φ:(Int→Int)→Int} {off:(Int→Int)→Prop} (hφ:Place p φ off) (ho:∀ X∈outX p,off (chX X))
include h hφ ho
end
end Go.Proofs.YtnhdmghgjngcaaaGreat
namespace Go.Proofs.YtnhdmghgjngcaaaGreat
open Go.RowKit
set_option linter.unusedSectionVars false

section
variable {p:Pl} (h:Valid p)
include h
theorem Valid.head_in {X:List Int} (hX:X∈cyclesD p):X.headD 0∈X:=by
 obtain ⟨x,-,-,ex,hx⟩:=h.cyc_form hX
 rw [ex];exact hx
end
section
variable {p:Pl} (h:Valid p) {φ:(Int→Int)→Int} {off:(Int→Int)→Prop} (hφ:Place p φ off) (ho:∀ X∈outX p,off (chX X))
include h hφ
include ho
end
end Go.Proofs.YtnhdmghgjngcaaaGreat
