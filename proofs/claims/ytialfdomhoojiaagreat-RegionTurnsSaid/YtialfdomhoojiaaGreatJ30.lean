import Derived.Test.YtialfdomhoojiaaGreatJ08
import Derived.Test.YtialfdomhoojiaaGreatJ12
import Derived.Test.YtialfdomhoojiaaGreatJ13
import Derived.Test.YtialfdomhoojiaaGreatJ19
set_option linter.unusedSimpArgs false
set_option linter.unusedVariables false
namespace Go.Proofs.YtialfdomhoojiaaGreat
open Go.RowKit
section
variable {p:Pl} (h:Valid p)
include h
theorem Valid.Vr {a:Ar} (ha:a∈p.ah) {k:Nat} (hk:k<(ak p a).length):qc ((ak p a).getD k aB):=by
 rw [List.getD_eq_getElem?_getD,List.getElem?_eq_getElem hk];exact h.Zx ha (List.getElem_mem hk)
theorem Valid.agS {n:Nd} (hn:n∈p.nodes):qc n.pt:=by
 have hr:=h.rng;unfold rY at hr;simp only [Bool.and_eq_true,List.all_eq_true] at hr;exact aeE (hr.2 _ (List.mem_append_left _ (List.mem_map_of_mem hn)))
end
set_option linter.unusedSectionVars false
theorem agT {α:Type} (t:α->Int) (q:α->Bool):∀ (l:List α),(∃ x∈l,q x=true)->∃ x∈l,q x=true/\∀ y∈l,q y=true->t y<=t x
 | [],h=>by obtain ⟨x,hx,_⟩:=h;cases hx
 | a::l,h=>by
  by_cases hl:∃ x∈l,q x=true
  ·obtain ⟨x,hx,h1,h2⟩:=agT t q l hl;by_cases ha:q a=true/\t x<t a
   ·refine ⟨a,List.mem_cons_self,ha.1,fun y hy hq=>?_⟩;rcases List.mem_cons.1 hy with rfl | hy
    · exact Int.le_refl _
    · have:=h2 y hy hq;omega
   ·refine ⟨x,List.mem_cons_of_mem _ hx,h1,fun y hy hq=>?_⟩;rcases List.mem_cons.1 hy with rfl | hy
    ·have:¬ t x<t y:=fun g=>ha ⟨hq,g⟩
     omega
    · exact h2 y hy hq
  ·obtain ⟨x,hx,h1⟩:=h;rcases List.mem_cons.1 hx with rfl | hx
   ·refine ⟨x,List.mem_cons_self,h1,fun y hy hq=>?_⟩;rcases List.mem_cons.1 hy with rfl | hy
    · exact Int.le_refl _
    · exact absurd ⟨y,hy,hq⟩ hl
   · exact absurd ⟨x,hx,h1⟩ hl
theorem QI {α:Type} {q:α->Bool}:∀ {l:List α},l.Nodup->∀ {x:α},x∈l->q x=true->(∀ y∈l,q y=true->y=x)->(l.filter q).length=1
 | [],_,x,hx,_,_=>by cases hx
 | a::l,hn,x,hx,hq,hu=>by
  obtain ⟨ha,hn'⟩:=List.nodup_cons.1 hn;rw [List.filter_cons];by_cases c:q a=true
  ·have e:=hu a List.mem_cons_self c;subst e;rw [if_pos c,List.filter_eq_nil_iff.2 (fun y hy hqy=>ha (by rw [<- hu y (List.mem_cons_of_mem _ hy) hqy];exact hy))];rfl
  ·rw [if_neg c];rcases List.mem_cons.1 hx with rfl | hx
   · exact absurd hq c
   · exact QI hn' hx hq fun y hy=>hu y (List.mem_cons_of_mem _ hy)
theorem Vs {α:Type} {q:α->Bool} {l:List α} (h:∀ y∈l,q y=true->False):(l.filter q).length=0:=by
 rw [List.filter_eq_nil_iff.2 (fun y hy hq=>h y hy hq)];rfl
section
variable {α:Type} {O:List α} (hn:O.Nodup) {E:α->Bool} {ar:α->Int} {A:α->α->Bool}
 (h1:∀ Y∈O,∀ Z∈O,E Y=true->E Z=true->Y≠Z->A Z Y=true\/A Y Z=true)
 (h2:∀ Y∈O,∀ Z∈O,A Z Y=true->ar Y<ar Z)
 (h3:∀ Y∈O,∀ Z∈O,A Z Y=true->E Y=true->E Z=true)
include hn h1 h2 h3
theorem apz [DecidableEq α] {X:α} (hX:X∈O):((O.filter (fun Y=>E Y && decide (jZ (fun Z=>A Z Y) ar O=some X))).length:Int)=(if E X=true then 1 else 0)-(if jZ E ar O=some X then 1 else 0):=by
 by_cases eX:E X=true
 ·rw [if_pos eX];by_cases eb:jZ E ar O=some X
  ·rw [if_pos eb,Vs]
   · rfl
   ·intro Y hY hq;rw [Bool.and_eq_true,decide_eq_true_eq] at hq;obtain ⟨-,b1,-⟩:=Dk _ _ hq.2;obtain ⟨-,-,b2⟩:=Dk _ _ eb;have:=b2 Y hY hq.1
    have:=h2 Y hY X hX b1
    omega
  ·rw [if_neg eb];obtain ⟨Y0,hY0,q0,m0⟩:=agT ar (fun Y=>E Y && decide (ar Y<ar X)) O (by
    have:=UF E ar O
    cases e:jZ E ar O with
    | none=>rw [e] at this;have:=this X hX;rw [eX] at this;cases this
    | some W =>
     rw [e] at this;obtain ⟨w1,w2,w3⟩:=this;have hne:W≠X:=fun g=>eb (by rw [e,g]);refine ⟨W,w1,?_⟩;rw [Bool.and_eq_true,decide_eq_true_eq];refine ⟨w2,?_⟩;have:=w3 X hX eX
     rcases h1 W w1 X hX w2 eX hne with g | g
     · exact h2 W w1 X hX g
     · have:=h2 X hX W w1 g;omega)
   rw [Bool.and_eq_true,decide_eq_true_eq] at q0;have aX:A X Y0=true:=by
    rcases h1 Y0 hY0 X hX q0.1 eX (fun g=>by rw [g] at q0;omega) with g | g
    · exact g
    · have:=h2 X hX Y0 hY0 g;omega
   rw [QI hn hY0]
   · rfl
   ·rw [Bool.and_eq_true,decide_eq_true_eq];refine ⟨q0.1,?_⟩;have:=UF (fun Z=>A Z Y0) ar O
    cases e:jZ (fun Z=>A Z Y0) ar O with
    | none=>rw [e] at this;have:=this X hX;rw [aX] at this;cases this
    | some W =>
     rw [e] at this;obtain ⟨w1,w2,w3⟩:=this;have g1:=w3 X hX aX;have eW:=h3 Y0 hY0 W w1 w2 q0.1;have g2:=h2 Y0 hY0 W w1 w2;by_cases hne:W=X
     · rw [hne]
     ·have g3:ar W<ar X:=by
       rcases h1 W w1 X hX eW eX hne with g | g
       · exact h2 W w1 X hX g
       · have:=h2 X hX W w1 g;omega
      have:=m0 W w1 (by rw [Bool.and_eq_true,decide_eq_true_eq];exact ⟨eW,g3⟩)
      omega
   ·intro Y hY hq;rw [Bool.and_eq_true,decide_eq_true_eq] at hq;obtain ⟨-,b1,b2⟩:=Dk _ _ hq.2;have g1:=h2 Y hY X hX b1;have g2:=m0 Y hY (by rw [Bool.and_eq_true,decide_eq_true_eq];exact ⟨hq.1,g1⟩);by_cases hne:Y=Y0
    · exact hne
    ·exfalso;rcases h1 Y hY Y0 hY0 hq.1 q0.1 hne with g | g
     · have:=b2 Y0 hY0 g;omega
     · have:=h2 Y0 hY0 Y hY g;omega
 ·rw [if_neg eX,if_neg (fun g=>eX (Dk _ _ g).2.1),Vs]
  · rfl
  ·intro Y hY hq;rw [Bool.and_eq_true,decide_eq_true_eq] at hq;obtain ⟨-,b1,-⟩:=Dk _ _ hq.2;exact eX (h3 Y hY X hX b1 hq.1)
end
set_option linter.unusedSectionVars false
def pO (p:Pl) (Z Y:List Int):Bool:=decide (aK p p.ah.length (Z.headD 0)≠aK p p.ah.length (Y.headD 0)) && decide (Hz p (aG Z) (Y.headD 0)=1)
def HW (p:Pl) (z:Int->Int):Prop:=∀ a∈p.ah,z a.id≠0->(Hz p z (-a.id)=0/\Hz p z a.id=1)\/(Hz p z (-a.id)=1/\Hz p z a.id=0)
section
variable {p:Pl} (h:Valid p)
include h
theorem Valid.Vt {X Y:List Int} (hX:X∈aI p) (dQ:Y∈aI p) (Di:X≠Y) :
  (HW p (fun i=>aG X i+aG Y i)/\pO p X Y=false/\pO p Y X=false) \/
  (HW p (fun i=>aG X i + -aG Y i)/\dV p Y<dV p X/\pO p X Y=true/\pO p Y X=false) \/
  (HW p (fun i=>aG Y i + -aG X i)/\dV p X<dV p Y/\pO p Y X=true/\pO p X Y=false):=by
 obtain ⟨hX,zh⟩:=fF.1 hX;obtain ⟨dQ,zi⟩:=fF.1 dQ;obtain ⟨x,hxd,-,ex,hx⟩:=h.uI hX;obtain ⟨y,LY,-,ey,hy⟩:=h.uI dQ;unfold pO;rw [ex,ey];have zX:=h.qK hX;have zY:=h.qK dQ;have both:∀ d,¬ (d∈X/\d∈Y):=fun d hd=>Di (h.Eo hX dQ hd.1 hd.2);have dm:∀ a∈p.ah,a.id∈aQ p/\-a.id∈aQ p:=fun a ha=>⟨ji.2 ⟨a,ha,.inl rfl⟩,ji.2 ⟨a,ha,.inr rfl⟩⟩;have sup:∀ a∈p.ah,(aG X a.id≠0\/aG Y a.id≠0)->(aK p p.ah.length a.id=aK p p.ah.length x/\aK p p.ah.length (-a.id)=aK p p.ah.length x)\/(aK p p.ah.length a.id=aK p p.ah.length y/\aK p p.ah.length (-a.id)=aK p p.ah.length y):=by
  intro a ha hne;by_cases c:aG X a.id=0
  · exact .inr (h.Ep dQ hy ha (hne.resolve_left (fun g=>g c)))
  · exact .inl (h.Ep hX hx ha c)
 have jump:∀ a∈p.ah,Hz p (aG X) a.id-Hz p (aG X) (-a.id)=aG X a.id/\Hz p (aG Y) a.id-Hz p (aG Y) (-a.id)=aG Y a.id:=fun a ha=>⟨h.yg zX ha,h.yg zY ha⟩;have jC:∀ (P:Prop) [Decidable P],(if P then (1:Int) else 0)=0\/(if P then (1:Int) else 0)=1:=fun P _=>by split<;>simp
 by_cases hc:aK p p.ah.length x=aK p p.ah.length y
 ·refine .inl ⟨fun a ha hne=>?_,by simp [hc],by simp [hc]⟩;rw [h.pF,h.pF];have hne':aG X a.id+aG Y a.id≠0:=hne;have hs:aK p p.ah.length a.id=aK p p.ah.length x/\aK p p.ah.length (-a.id)=aK p p.ah.length x:=by
   rcases sup a ha (by omega) with g | g
   · exact g
   · rw [hc];exact g
  have j:=jump a ha;have a1:=h.tC hX zh hx (dm a ha).1 hs.1;have a2:=h.tC hX zh hx (dm a ha).2 hs.2;have a3:=h.tC dQ zi hy (dm a ha).1 (hs.1.trans hc);have a4:=h.tC dQ zi hy (dm a ha).2 (hs.2.trans hc);have b1:=both a.id;have b2:=both (-a.id);have t1:Hz p (aG X) a.id+Hz p (aG Y) a.id=0\/Hz p (aG X) a.id+Hz p (aG Y) a.id=1:=by
   rw [a1,a3];by_cases c1:a.id∈X<;>by_cases c2:a.id∈Y<;>simp only [c1,c2,if_true,if_false] at b1 ⊢ <;> simp at b1 ⊢
  have t2:Hz p (aG X) (-a.id)+Hz p (aG Y) (-a.id)=0\/Hz p (aG X) (-a.id)+Hz p (aG Y) (-a.id)=1:=by
   rw [a2,a4];by_cases c1:-a.id∈X<;>by_cases c2:-a.id∈Y<;>simp only [c1,c2,if_true,if_false] at b2 ⊢ <;> simp at b2 ⊢
  omega
 ·obtain ⟨α01,αc⟩:=h.Jf hX zh hx LY (fun e=>hc e.symm);obtain ⟨β01,βc⟩:=h.Jf dQ zi hy hxd hc;have pG:∀ d∈aQ p,aK p p.ah.length d=aK p p.ah.length x->Hz p (aG X) d=(if d∈X then 1 else 0)/\Hz p (aG Y) d=Hz p (aG Y) x:=fun d hd hs=>⟨h.tC hX zh hx hd hs,βc d hd hs⟩;have qL:∀ d∈aQ p,aK p p.ah.length d=aK p p.ah.length y->Hz p (aG Y) d=(if d∈Y then 1 else 0)/\Hz p (aG X) d=Hz p (aG X) y:=fun d hd hs=>⟨h.tC dQ zi hy hd hs,αc d hd hs⟩;have r1:decide (aK p p.ah.length x≠aK p p.ah.length y)=true:=by simpa using hc
  have r2:decide (aK p p.ah.length y≠aK p p.ah.length x)=true:=by simpa using fun e=>hc (Eq.symm e)
  rw [r1,r2,Bool.true_and,Bool.true_and];generalize Hz p (aG X) y=α at *;generalize Hz p (aG Y) x=β at *;rcases α01 with α0 | α1<;>rcases β01 with β0 | β1
  ·refine .inl ⟨fun a ha hne=>?_,by simp [α0],by simp [β0]⟩;rw [h.pF,h.pF];have hne':aG X a.id+aG Y a.id≠0:=hne;have j:=jump a ha;rcases sup a ha (by omega) with g | g
   ·obtain ⟨e1,e2⟩:=pG _ (dm a ha).1 g.1;obtain ⟨e3,e4⟩:=pG _ (dm a ha).2 g.2;have i1:=jC (a.id∈X);have i2:=jC (-a.id∈X);omega
   ·obtain ⟨e1,e2⟩:=qL _ (dm a ha).1 g.1;obtain ⟨e3,e4⟩:=qL _ (dm a ha).2 g.2;have i1:=jC (a.id∈Y);have i2:=jC (-a.id∈Y);omega
  ·have hw:HW p (fun i=>aG Y i + -aG X i):=fun a ha hne=>by
    rw [h.pF,h.pF,h.Es,h.Es];have hne':aG Y a.id + -aG X a.id≠0:=hne;have j:=jump a ha;rcases sup a ha (by omega) with g | g
    ·obtain ⟨e1,e2⟩:=pG _ (dm a ha).1 g.1;obtain ⟨e3,e4⟩:=pG _ (dm a ha).2 g.2;have i1:=jC (a.id∈X);have i2:=jC (-a.id∈X);omega
    ·obtain ⟨e1,e2⟩:=qL _ (dm a ha).1 g.1;obtain ⟨e3,e4⟩:=qL _ (dm a ha).2 g.2;have i1:=jC (a.id∈Y);have i2:=jC (-a.id∈Y);omega
   refine .inr (.inr ⟨hw,?_,by simp [β1],by simp [α0]⟩);have hp:=(h.PK (zY.add zX.neg) hw).2 (Classical.byContradiction fun hno=>by
    have:=h.PV (z:=fun i=>aG Y i + -aG X i) (fun a ha=>Classical.byContradiction fun e=>hno ⟨a,ha,e⟩) y
    obtain ⟨e1,e2⟩:=qL y LY rfl;rw [h.pF,h.Es,e1,e2,if_pos hy] at this;omega)
   rw [Gs,Gq,<- h.Je hX,<- h.Je dQ] at hp;omega
  ·have hw:HW p (fun i=>aG X i + -aG Y i):=fun a ha hne=>by
    rw [h.pF,h.pF,h.Es,h.Es];have hne':aG X a.id + -aG Y a.id≠0:=hne;have j:=jump a ha;rcases sup a ha (by omega) with g | g
    ·obtain ⟨e1,e2⟩:=pG _ (dm a ha).1 g.1;obtain ⟨e3,e4⟩:=pG _ (dm a ha).2 g.2;have i1:=jC (a.id∈X);have i2:=jC (-a.id∈X);omega
    ·obtain ⟨e1,e2⟩:=qL _ (dm a ha).1 g.1;obtain ⟨e3,e4⟩:=qL _ (dm a ha).2 g.2;have i1:=jC (a.id∈Y);have i2:=jC (-a.id∈Y);omega
   refine .inr (.inl ⟨hw,?_,by simp [α1],by simp [β0]⟩);have hp:=(h.PK (zX.add zY.neg) hw).2 (Classical.byContradiction fun hno=>by
    have:=h.PV (z:=fun i=>aG X i + -aG Y i) (fun a ha=>Classical.byContradiction fun e=>hno ⟨a,ha,e⟩) x
    obtain ⟨e1,e2⟩:=pG x hxd rfl;rw [h.pF,h.Es,e1,e2,if_pos hx] at this;omega)
   rw [Gs,Gq,<- h.Je hX,<- h.Je dQ] at hp;omega
  ·exfalso;obtain ⟨a,ha,hne,hor⟩:=h.afw (zX.add zY) (Classical.byContradiction fun hno=>by
    have:=h.PV (z:=fun i=>aG X i+aG Y i) (fun a ha=>Classical.byContradiction fun e=>hno ⟨a,ha,e⟩) x
    rw [h.pF] at this;obtain ⟨e1,e2⟩:=pG x hxd rfl;have i1:=jC (x∈X);omega)
   have hne':aG X a.id+aG Y a.id≠0:=hne;rw [h.pF,h.pF] at hor;rcases sup a ha (by omega) with g | g
   ·obtain ⟨e1,e2⟩:=pG _ (dm a ha).1 g.1;obtain ⟨e3,e4⟩:=pG _ (dm a ha).2 g.2;have i1:=jC (a.id∈X);have i2:=jC (-a.id∈X);omega
   ·obtain ⟨e1,e2⟩:=qL _ (dm a ha).1 g.1;obtain ⟨e3,e4⟩:=qL _ (dm a ha).2 g.2;have i1:=jC (a.id∈Y);have i2:=jC (-a.id∈Y);omega
theorem Valid.apA {X Y:List Int} (hX:X∈aI p) (dQ:Y∈aI p) (ha:pO p X Y=true):dV p Y<dV p X:=by
 by_cases Di:X=Y
 · subst Di;unfold pO at ha;simp at ha
 ·rcases h.Vt hX dQ Di with ⟨-,g,-⟩ | ⟨-,g,-⟩ | ⟨-,-,-,g⟩
  · rw [g] at ha;cases ha
  · exact g
  · rw [g] at ha;cases ha
end
structure Place (p:Pl) (φ:(Int->Int)->Int) (off:(Int->Int)->Prop):Prop where
 add:∀ z u,φ (fun i=>z i+u i)=φ z+φ u
 neg:∀ z,φ (fun i=>-z i)=-φ z
 aa2:∀ z u,(∀ a∈p.ah,z a.id=u a.id)->φ z=φ u
 Vu:∀ z u,off z->off u->off (fun i=>z i+u i)
 aa3:∀ z,off z->off (fun i=>-z i)
 QJ:∀ z,iy p z->HW p z->off z->φ z=0\/φ z=1
section
variable {p:Pl} (h:Valid p) {φ:(Int->Int)->Int} {off:(Int->Int)->Prop} (hφ:Place p φ off) (ho:∀ X∈aI p,off (aG X))
include h hφ ho
theorem Place.agU {X:List Int} (hX:X∈aI p):φ (aG X)=0\/φ (aG X)=1:=by
 obtain ⟨h1,h2⟩:=fF.1 hX;exact hφ.QJ _ (h.qK h1) (h.aam h1 h2) (ho X hX)
theorem Place.two {X Y:List Int} (hX:X∈aI p) (dQ:Y∈aI p) (Di:X≠Y) (e1:φ (aG X)=1) (e2:φ (aG Y)=1):pO p Y X=true\/pO p X Y=true:=by
 rcases h.Vt hX dQ Di with ⟨g,-,-⟩ | ⟨-,-,g,-⟩ | ⟨-,-,g,-⟩
 ·have:=hφ.QJ _ ((h.qK (fF.1 hX).1).add (h.qK (fF.1 dQ).1)) g (hφ.Vu _ _ (ho X hX) (ho Y dQ))
  rw [hφ.add,e1,e2] at this;omega
 · exact .inr g
 · exact .inl g
theorem Place.up {X Y:List Int} (hX:X∈aI p) (dQ:Y∈aI p) (ha:pO p Y X=true) (e1:φ (aG X)=1):φ (aG Y)=1:=by
 have Di:X≠Y:=by rintro rfl;unfold pO at ha;simp at ha
 have e2:=Place.agU h hφ ho dQ;rcases h.Vt hX dQ Di with ⟨-,-,g⟩ | ⟨-,-,-,g⟩ | ⟨g,-,-,-⟩
 · rw [g] at ha;cases ha
 · rw [g] at ha;cases ha
 ·have:=hφ.QJ _ ((h.qK (fF.1 dQ).1).add (h.qK (fF.1 hX).1).neg) g (hφ.Vu _ _ (ho Y dQ) (hφ.aa3 _ (ho X hX)))
  rw [hφ.add,hφ.neg,e1] at this;omega
end
set_option linter.unusedSectionVars false
def oQ (L:List (List Int)) (i:Int):Int:=(L.map fun c=>aG c i).sum
theorem Place.zero {p:Pl} {φ:(Int->Int)->Int} {off:(Int->Int)->Prop} (hφ:Place p φ off) {z:Int->Int} (h:∀ a∈p.ah,z a.id=0):φ z=0:=by
 have e:=hφ.add z z;have e2:=hφ.aa2 (fun i=>z i+z i) z (fun a ha=>by rw [h a ha];rfl);omega
theorem Place.sum {p:Pl} {φ:(Int->Int)->Int} {off:(Int->Int)->Prop} (hφ:Place p φ off):∀ L:List (List Int),φ (oQ L)=(L.map fun c=>φ (aG c)).sum
 | []=>hφ.zero fun a _=>rfl
 | c::L=>by
  rw [List.map_cons,List.sum_cons,<- Place.sum hφ L,<- hφ.add];rfl
theorem Vw (l:List (List Int)) (q:List Int->Bool) (F:List Int->Int):((l.filter q).map F).sum=(l.map fun c=>if q c=true then F c else 0).sum:=by
 induction l with
 | nil=>rfl
 | cons c l ih =>
  rw [List.filter_cons,List.map_cons,List.sum_cons];by_cases e:q c=true
  · rw [if_pos e,if_pos e,List.map_cons,List.sum_cons,ih]
  · rw [if_neg e,if_neg e,ih];omega
theorem aa4 (l:List (List Int)) (q:List Int->Bool):(l.map fun c=>if q c=true then (1:Int) else 0).sum=((l.filter q).length:Int):=by
 induction l with
 | nil=>rfl
 | cons c l ih =>
  rw [List.filter_cons,List.map_cons,List.sum_cons,ih];by_cases e:q c=true
  · rw [if_pos e,if_pos e,List.length_cons];omega
  · rw [if_neg e,if_neg e];omega
def iI (p:Pl) (c:List Int):Int:=aK p p.ah.length (c.headD 0)
section
variable {p:Pl} (h:Valid p)
include h
theorem Valid.oU {X:List Int} (hX:X∈bF p):X.headD 0∈X:=by
 obtain ⟨x,-,-,ex,hx⟩:=h.uI hX;rw [ex];exact hx
theorem Valid.QK {X:List Int} (hX:X∈bF p) {d:Int} (hd:d∈X):iI p X=aK p p.ah.length d:=h.yt hX (h.oU hX) hd
theorem Valid.apB (s:Int) {a:Ar} (ha:a∈p.ah):oQ ((bF p).filter fun c=>decide (iI p c=s)) a.id=0:=by
 have one:∀ d∈aQ p,(((bF p).filter fun c=>decide (iI p c=s)).map fun c=>if d∈c then (1:Int) else 0).sum=if aK p p.ah.length d=s then 1 else 0:=by
  intro d hd;obtain ⟨c,hc,hdc,-⟩:=h.Jc hd;have e:(((bF p).filter fun c=>decide (iI p c=s)).map fun c=>if d∈c then (1:Int) else 0)=(((bF p).filter fun c=>decide (iI p c=s)).map fun c=>if decide (d∈c)=true then (1:Int) else 0):=by
   congr 1;funext c;simp
  rw [e,aa4];by_cases g:aK p p.ah.length d=s
  ·rw [if_pos g,QI (h.U2.filter _) (x:=c)]
   · rfl
   ·rw [List.mem_filter,decide_eq_true_eq,h.QK hc hdc];exact ⟨hc,g⟩
   · simpa using hdc
   ·intro y hy hdy;exact h.Eo (List.mem_filter.1 hy).1 hc (by simpa using hdy) hdc
  ·rw [if_neg g,Vs]
   · rfl
   ·intro y hy hdy;rw [List.mem_filter,decide_eq_true_eq] at hy;rw [h.QK hy.1 (by simpa using hdy)] at hy;exact g hy.2
 have hma:a.id∈aQ p:=ji.2 ⟨a,ha,.inl rfl⟩;have e:oQ ((bF p).filter fun c=>decide (iI p c=s)) a.id=(((bF p).filter fun c=>decide (iI p c=s)).map fun c=>if a.id∈c then (1:Int) else 0).sum-(((bF p).filter fun c=>decide (iI p c=s)).map fun c=>if -a.id∈c then (1:Int) else 0).sum:=by
  unfold oQ aG;have:=sZ ((bF p).filter fun c=>decide (iI p c=s)) (fun c=>if a.id∈c then (1:Int) else 0) (fun c=>-(if -a.id∈c then (1:Int) else 0))
  rw [vk] at this;simp only [<- Int.sub_eq_add_neg] at this;exact this
 rw [e,one _ hma,one _ (y8 hma),h.wG hma];omega
theorem Valid.agV {r:Int} (hr:r∈aQ p):∃ c∈iM p,iI p c=aK p p.ah.length r/\∀ X∈bF p,iI p X=aK p p.ah.length r->X≠c->X∈aI p:=by
 obtain ⟨d0,g1,g2,g3⟩:=h.afo hr;obtain ⟨c,hc,hdc,-⟩:=h.Jc g1;have key:∀ X∈bF p,iI p X=aK p p.ah.length r->(0<dV p X↔d0∉X):=fun X hX e=>by
  have hh:=h.oU hX;have e':aK p p.ah.length (X.headD 0)=aK p p.ah.length r:=e;exact h.afp hX hh g1 (by rw [g2,e']) (fun z hz hs=>g3 z hz (fun a ha hne=>by rw [hs a ha hne,e']))
 have ec:iI p c=aK p p.ah.length r:=by rw [h.QK hc hdc,g2]
 refine ⟨c,tH.2 ⟨hc,fun hp=>((key c hc ec).1 hp) hdc⟩,ec,fun X hX e hne=>fF.2 ⟨hX,(key X hX e).2 fun hd=>hne (h.Eo hX hc hd hdc)⟩⟩
theorem Valid.QL {X:List Int} (hX:X∈bF p):∃ a∈p.ah,(X.headD 0=a.id\/X.headD 0=-a.id)/\lC p X=(ak p a).getD 0 aB/\aK p p.ah.length a.id=iI p X:=by
 have hd:=(h.iE hX).2 _ (h.oU hX);obtain ⟨a,ha,hor,hpt⟩:=h.AY hd;refine ⟨a,ha,hor,by unfold lC;rw [hpt],?_⟩;have hma:a.id∈aQ p:=ji.2 ⟨a,ha,.inl rfl⟩;unfold iI;rcases hor with e | e
 · rw [e]
 · rw [e,h.wG hma]
theorem Valid.agW {X Y:List Int} (hX:X∈bF p) (dQ:Y∈bF p) (e:iI p X=iI p Y):dW p (lC p X)=dW p (lC p Y):=by
 obtain ⟨a,ha,-,e1,e2⟩:=h.QL hX;obtain ⟨b,hb,-,e3,e4⟩:=h.QL dQ;rw [e1,e3];have la:=fM p a;have lb:=fM p b;exact h.afI ha hb (by rw [e2,e4,e]) (by omega) (by omega)
theorem Valid.apC {Z Y:List Int} (hZ:Z∈aI p) (dQ:Y∈bF p):encS p Z (lC p Y)=pO p Z Y:=by
 obtain ⟨a,ha,hor,e1,e2⟩:=h.QL dQ;have QM:=fF.1 hZ;have la:=fM p a;have hk:0<(ak p a).length:=by omega
 have hh:=h.oU QM.1;rw [e1];unfold pO;by_cases c:aK p p.ah.length (Z.headD 0)=aK p p.ah.length (Y.headD 0)
 ·rw [h.aaq hZ hh ha (by rw [e2,c];rfl) hk];rw [decide_eq_false (by simpa using c)];rfl
 ·have hs:aK p p.ah.length a.id≠aK p p.ah.length (Z.headD 0):=fun g=>c (by rw [<- g,e2];rfl);have o1:=h.aap QM.1 hh ha hs hk;obtain ⟨w1,w2⟩:=h.L8 (h.qK QM.1) ha hk (h.L6 (h.bW ha hk) o1);rw [Bool.eq_iff_iff,h.Jg QM.1 QM.2 (h.bW ha hk),w1];have e3:Hz p (aG Z) a.id=Hz p (aG Z) (Y.headD 0):=by
   rcases hor with e | e
   · rw [e]
   · rw [e,w2]
  rw [e3,decide_eq_true (show aK p p.ah.length (Z.headD 0)≠aK p p.ah.length (Y.headD 0) from c),Bool.true_and,decide_eq_true_eq];exact ⟨fun g=>g.2,fun g=>⟨o1,g⟩⟩
theorem Valid.agX {Y:List Int} (dQ:Y∈bF p):dW p (lC p Y)=jZ (fun Z=>pO p Z Y) (dV p) (aI p) :=
 U1 fun Z hZ=>⟨h.apC hZ dQ,rfl⟩
end
section
variable {p:Pl} (h:Valid p) {φ:(Int->Int)->Int} {off:(Int->Int)->Prop} (hφ:Place p φ off) (ho:∀ X∈aI p,off (aG X))
include h hφ
theorem Place.inner {c:List Int} (hc:c∈iM p):φ (aG c)=-((aI p).map fun Y=>if iI p Y=iI p c then φ (aG Y) else 0).sum:=by
 obtain ⟨hc1,hc2⟩:=tH.1 hc;have hcd:=(h.iE hc1).2 _ (h.oU hc1);obtain ⟨c0,hc0,e0,hu⟩:=h.agV hcd;have hcc:c=c0:=Classical.byContradiction fun g=>hc2 (fF.1 (hu c hc1 rfl g)).2;subst hcc;have hs:=hφ.sum ((bF p).filter fun X=>decide (iI p X=iI p c));rw [hφ.zero (fun a ha=>h.apB (iI p c) ha),Vw] at hs;have e:((bF p).map fun X=>if decide (iI p X=iI p c)=true then φ (aG X) else 0).sum=((aI p).map fun X=>if iI p X=iI p c then φ (aG X) else 0).sum+((iM p).map fun X=>if iI p X=iI p c then φ (aG X) else 0).sum:=by
  unfold aI iM;rw [Vw,Vw,<- sZ];refine iC _ _ _ fun X hX=>?_;by_cases g:0<dV p X<;>simp [g]
 have e2:((iM p).map fun X=>if iI p X=iI p c then φ (aG X) else 0).sum=φ (aG c):=by
  have:∀ X∈iM p,(if iI p X=iI p c then φ (aG X) else 0)=if decide (X=c)=true then φ (aG c) else 0:=fun X hX=>by
   by_cases g:X=c
   · subst g;simp
   ·have h1:=tH.1 hX;have n1:¬ iI p X=iI p c:=fun e=>h1.2 (fF.1 (hu X h1.1 e g)).2;rw [if_neg n1,if_neg (by simpa using g)]
  rw [iC _ _ _ this,<- Vw];have hf:((iM p).filter fun X=>decide (X=c)).length=1:=QI (h.U2.filter _) hc (by simp) (fun y _ hy=>by simpa using hy)
  match hm:(iM p).filter fun X=>decide (X=c),hf with
  | [Z],_=>simp
 rw [e,e2] at hs;omega
theorem Place.region (b:Option (List Int)):φ (oQ (lS p b))=-((aI p).map fun Y=>if dW p (lC p Y)=b then φ (aG Y) else 0).sum:=by
 rw [hφ.sum];have e1:((lS p b).map fun c=>φ (aG c))=(lS p b).map fun c=>-((aI p).map fun Y=>if iI p Y=iI p c then φ (aG Y) else 0).sum:=by
  refine List.map_congr_left fun c hc=>?_;exact Place.inner h hφ (List.mem_filter.1 hc).1
 rw [e1,vk,ZF];congr 1;refine iC _ _ _ fun Y hY=>?_;have dQ:=fF.1 hY;obtain ⟨c0,hc0,e0,hu⟩:=h.agV ((h.iE dQ.1).2 _ (h.oU dQ.1));have hc0':=tH.1 hc0;have hh:=h.agW hc0'.1 dQ.1 e0;have e2:((lS p b).map fun c=>if iI p Y=iI p c then φ (aG Y) else 0)=(lS p b).map fun c=>φ (aG Y)*(if decide (iI p Y=iI p c)=true then 1 else 0):=by
  refine List.map_congr_left fun c _=>?_;by_cases g:iI p Y=iI p c<;>simp [g]
 rw [e2,Dc,aa4];by_cases g:dW p (lC p Y)=b
 ·rw [if_pos g,QI (l:=lS p b) ((h.U2.filter _).filter _) (x:=c0)]
  · simp
  ·unfold lS;rw [List.mem_filter,decide_eq_true_eq];exact ⟨hc0,by rw [hh];exact g⟩
  · rw [decide_eq_true_eq];exact e0.symm
  ·intro c hc hq;rw [decide_eq_true_eq] at hq;have h1:=tH.1 (List.mem_filter.1 hc).1;exact Classical.byContradiction fun g=>h1.2 (fF.1 (hu c h1.1 hq.symm g)).2
 ·rw [if_neg g,Vs]
  · simp
  ·intro c hc hq;rw [decide_eq_true_eq] at hq;unfold lS at hc;rw [List.mem_filter,decide_eq_true_eq] at hc;have h1:=tH.1 hc.1;exact g (by rw [<- hc.2];exact h.agW dQ.1 h1.1 hq)
include ho
theorem Place.home {X:List Int} (hX:X∈aI p):φ (oQ (gY p (some X)))=if jZ (fun Y=>decide (φ (aG Y)=1)) (dV p) (aI p)=some X then 1 else 0:=by
 have hn:(aI p).Nodup:=h.U4;have e1:φ (oQ (gY p (some X)))=φ (aG X)+φ (oQ (lS p (some X))):=by
  rw [<- hφ.add];rfl
 have h01:=fun Y hY=>Place.agU h hφ ho (X:=Y) hY;have cs:=apz hn (E:=fun Y=>decide (φ (aG Y)=1)) (ar:=dV p) (A:=pO p)
  (fun Y hY Z hZ e1 e2 hne=>by
   rcases Place.two h hφ ho hY hZ hne (by simpa using e1) (by simpa using e2) with g | g
   · exact .inl g
   · exact .inr g)
  (fun Y hY Z hZ g=>h.apA hZ hY g)
  (fun Y hY Z hZ g e=>by
   have:=Place.up h hφ ho hY hZ g (by simpa using e)
   simpa using this) hX
 rw [e1,Place.region h hφ];have e2:((aI p).map fun Y=>if dW p (lC p Y)=some X then φ (aG Y) else 0).sum=(((aI p).filter fun Y=>decide (φ (aG Y)=1) && decide (jZ (fun Z=>pO p Z Y) (dV p) (aI p)=some X)).length:Int):=by
  rw [<- aa4];refine iC _ _ _ fun Y hY=>?_;rw [h.agX (fF.1 hY).1];by_cases g:jZ (fun Z=>pO p Z Y) (dV p) (aI p)=some X
  ·rw [if_pos g,decide_eq_true g,Bool.and_true];rcases h01 Y hY with e | e
   · rw [e];rfl
   · rw [e];rfl
  ·rw [if_neg g,decide_eq_false g,Bool.and_false];rfl
 rw [e2,cs];have key:∀ c b:Int,c=0\/c=1->c + -((if decide (c=1)=true then 1 else 0)-b)=b:=by
  intro c b hc;rcases hc with rfl | rfl<;>simp<;>omega
 exact key _ _ (h01 X hX)
end
set_option linter.unusedSectionVars false
theorem agY {p:Pl} {z u:Int->Int} (f:Pt->Pt->Int) (h:∀ a∈p.ah,z a.id=u a.id):bZ p z f=bZ p u f:=by
 unfold bZ;exact iC _ _ _ fun a ha=>by rw [h a ha]
section
variable {p:Pl} (h:Valid p)
include h
theorem Valid.apD {v:Pt} (nv:aU v=true):Place p (fun z=>oM p z v) (fun z=>vw p z v) where
 add z u:=Gs p z u _
 neg z:=Gq p z _
 aa2 z u e:=agY _ e
 Vu z u hz hu:=fun a ha hne k hk=>by
  have hne':z a.id+u a.id≠0:=hne;by_cases c:z a.id=0
  · exact hu a ha (by omega) k hk
  · exact hz a ha c k hk
 aa3 z hz:=fun a ha hne k hk=>by
  have hne':-z a.id≠0:=hne;exact hz a ha (by omega) k hk
 QJ z hz hw ho:=h.aal hz hw nv ho
theorem Valid.apE {d:Int} (hd:d∈aQ p):Place p (fun z=>Hz p z d) (fun _=>True) where
 add z u:=Gs p z u _
 neg z:=Gq p z _
 aa2 z u e:=agY _ e
 Vu _ _ _ _:=trivial
 aa3 _ _:=trivial
 QJ z hz hw _:=h.afv hz hw hd
theorem Valid.agZ {v:Pt} (nv:aU v=true) (hoff:∀ a∈p.ah,∀ k,k+1<(ak p a).length->¬ iT ((ak p a).getD k aB) ((ak p a).getD (k+1) aB) v) {X:List Int} (hX:X∈aI p) :
  oM p (oQ (gY p (some X))) v=if dW p v=some X then 1 else 0:=by
 have t:=Place.home h (h.apD nv) (fun Y hY a ha _ k hk=>hoff a ha k hk) hX;have e:jZ (fun Y=>decide (oM p (aG Y) v=1)) (dV p) (aI p)=dW p v:=by
  unfold dW;refine U1 fun Y hY=>⟨?_,rfl⟩;have dQ:=fF.1 hY;rw [Bool.eq_iff_iff,decide_eq_true_eq,h.Jg dQ.1 dQ.2 nv];refine ⟨fun g=>⟨fun q hq=>?_,g⟩,fun g=>g.2⟩;obtain ⟨a,ha,-,k,hk,rfl⟩:=h.PW (h.iE dQ.1).2 hq;rw [<- Bool.not_eq_true,Et (h.bW ha (by omega)) (h.bW ha hk) nv];exact hoff a ha k hk
 rw [e] at t;exact t
theorem Valid.apF {X:List Int} (hX:X∈aI p) {d:Int} (hd:d∈aQ p) (hno:∀ c∈gY p (some X),d∉c):Hz p (oQ (gY p (some X))) d=0:=by
 have hφ:=h.apE hd;have t:=Place.home h hφ (fun Y hY=>trivial) hX;rw [if_neg] at t
 · exact t
 intro hb;obtain ⟨-,eX,hmin⟩:=Dk _ _ hb;simp only [decide_eq_true_eq] at eX hmin;obtain ⟨W,hW,Nc,-⟩:=h.Jc hd;have hX':=fF.1 hX;by_cases Nh:W∈aI p
 ·have hW':=fF.1 Nh;by_cases hXW:X=W
  ·subst hXW;exact hno X (by unfold gY;exact List.mem_cons_self) Nc
  ·have JO:aK p p.ah.length d=aK p p.ah.length (W.headD 0):=h.yt hW Nc (h.oU hW);have eW:Hz p (aG W) d=1:=by rw [h.tC hW'.1 hW'.2 (h.oU hW) hd JO,if_pos Nc]
   have hle:=hmin W Nh eW;rcases h.Vt Nh hX (fun e=>hXW e.symm) with ⟨-,g1,g2⟩ | ⟨-,-,g1,g2⟩ | ⟨-,g1,-,-⟩
   ·rcases Place.two h hφ (fun Y hY=>trivial) Nh hX (fun e=>hXW e.symm) eW eX with g | g
    · rw [g2] at g;cases g
    · rw [g1] at g;cases g
   ·unfold pO at g1 g2;rw [Bool.and_eq_true,decide_eq_true_eq] at g1;have hs:aK p p.ah.length d≠aK p p.ah.length (X.headD 0):=by rw [JO];exact g1.1
    have:=(h.Jf hX'.1 hX'.2 (h.oU hX'.1) hd hs).2 (W.headD 0) ((h.iE hW).2 _ (h.oU hW)) JO.symm
    rw [eX] at this;rw [Bool.and_eq_false_iff] at g2;rcases g2 with g2 | g2
    ·rw [decide_eq_false_iff_not] at g2;exact g2 (fun e=>g1.1 e.symm)
    ·rw [decide_eq_false_iff_not] at g2;exact g2 this
   · omega
 ·have hWr:W∈iM p:=tH.2 ⟨hW,fun g=>Nh (fF.2 ⟨hW,g⟩)⟩;have JO:aK p p.ah.length d=aK p p.ah.length (W.headD 0):=h.yt hW Nc (h.oU hW);have e:jZ (fun Y=>decide (Hz p (aG Y) d=1)) (dV p) (aI p)=dW p (lC p W):=by
   rw [h.agX hW];refine U1 fun Y hY=>⟨?_,rfl⟩;have dQ:=fF.1 hY;unfold pO;by_cases c:aK p p.ah.length (Y.headD 0)=aK p p.ah.length (W.headD 0)
   ·have hdY:d∉Y:=fun g=>Nh (by rw [h.Eo hW dQ.1 Nc g];exact hY);rw [h.tC dQ.1 dQ.2 (h.oU dQ.1) hd (by rw [JO,c]),if_neg hdY,decide_eq_false (show ¬ aK p p.ah.length (Y.headD 0)≠aK p p.ah.length (W.headD 0) from fun g=>g c)];rfl
   ·have:=(h.Jf dQ.1 dQ.2 (h.oU dQ.1) hd (by rw [JO];exact fun e=>c e.symm)).2 (W.headD 0) ((h.iE hW).2 _ (h.oU hW)) JO.symm
    rw [this,decide_eq_true (show aK p p.ah.length (Y.headD 0)≠aK p p.ah.length (W.headD 0) from c),Bool.true_and]
  have hb':jZ (fun Y=>decide (Hz p (aG Y) d=1)) (dV p) (aI p)=some X:=hb;rw [e] at hb';exact hno W (by
   unfold gY lS;exact List.mem_cons_of_mem _ (List.mem_filter.2 ⟨hWr,by simpa using hb'⟩)) Nc
theorem Valid.apG {z:Int->Int} (hz:iy p z) {a:Ar} (ha:a∈p.ah) {k:Nat} (hk:k+1<(ak p a).length) {v:Pt} (nv:aU v=true) (hon:iT ((ak p a).getD k aB) ((ak p a).getD (k+1) aB) v) (hoff:vw p z v):oM p z v=Hz p z a.id:=by
 have hza:z a.id=0:=Classical.byContradiction fun e=>hoff a ha e k hk hon;have hp:=h.yg hz ha;have na:=h.bW ha (k:=k) (by omega);have nb:=h.bW ha hk;by_cases e1:(ak p a).getD k aB=v
 ·have:=(h.L8 hz ha (k:=k) (by omega) (by rw [e1];exact hoff)).1
  rwa [e1] at this
 by_cases e2:(ak p a).getD (k+1) aB=v
 ·have:=(h.L8 hz ha hk (by rw [e2];exact hoff)).1
  rwa [e2] at this
 obtain ⟨D,hD,hd⟩:=h.PU;have hne:=(h.distinct ha hk).1;have n1:hY ((ak p a).getD k aB)≠hY v:=fun e=>e1 (mg na nv e);have n2:hY ((ak p a).getD (k+1) aB)≠hY v:=fun e=>e2 (mg nb nv e);have n3:hY ((ak p a).getD k aB)≠hY ((ak p a).getD (k+1) aB):=fun e=>hne (mg na nb e);have hs:(2*hY ((ak p a).getD k aB)<2*hY v/\2*hY v<2*hY ((ak p a).getD (k+1) aB))\/(2*hY ((ak p a).getD (k+1) aB)<2*hY v/\2*hY v<2*hY ((ak p a).getD k aB)):=by
  by_cases c:hY ((ak p a).getD k aB)<hY ((ak p a).getD (k+1) aB)
  · have:=Ji c hon;omega
  · have:=Ji (show hY ((ak p a).getD (k+1) aB)<hY ((ak p a).getD k aB) by omega) (Bf hon);omega
 have b:=(h.Uy hz hD hd (h.aft nv hoff) ha hk hs).1;have hx:=afq ((ak p a).getD k aB) ((ak p a).getD (k+1) aB) v;rw [hon.1,Int.mul_zero] at hx;have hdv:=hd a ha k hk;have ex:xE D ((ak p a).getD k aB) ((ak p a).getD (k+1) aB) (2*hY v)=2*D*v.x:=by
  unfold xE;rw [show xN ((ak p a).getD k aB) ((ak p a).getD (k+1) aB) (2*hY v)=2*v.x*(hY ((ak p a).getD (k+1) aB)-hY ((ak p a).getD k aB)) by omega,Int.mul_assoc,Int.mul_ediv_cancel' hdv]
  grind
 rw [ex,<- h.aak hz hD hd nv hoff] at b;rw [b];split<;>omega
theorem Valid.apH {X:List Int} (hX:X∈bF p) (f:Pt×Pt->Int) (g:Pt->Pt->Int) (hfg:∀ a b,f (a,b) % 2=g a b % 2):((bP p X).map f).sum % 2=bZ p (aG X) g % 2:=by
 obtain ⟨-,h2⟩:=h.iE hX;have e1:((bP p X).map f).sum=(X.map fun d=>jY (fun a b=>f (a,b)) (gK p d)).sum:=by
  unfold bP;rw [List.map_flatMap,aad];refine iC _ _ _ fun d _=>?_;unfold fU jY;rw [List.map_map];rfl
 rw [e1,h.UC hX];unfold bZ;refine UD _ _ _ fun a ha=>?_;have hid:=(h.jB ha).1;have p1:gK p a.id=ak p a:=by
  unfold gK;rw [show gJ a.id=a.id by unfold gJ;split<;>omega,h.find ha]
 have p2:gK p (-a.id)=ak p a:=by
  unfold gK;rw [show gJ (-a.id)=a.id by unfold gJ;split<;>omega,h.find ha]
 rw [p1,p2];have e:jY (fun a b=>f (a,b)) (ak p a) % 2=jY g (ak p a) % 2:=by
  unfold jY;exact UD _ _ _ fun k _=>hfg _ _
 generalize jY (fun a b=>f (a,b)) (ak p a)=s at *;generalize jY g (ak p a)=t at *;unfold aG;by_cases c1:a.id∈X<;>by_cases c2:-a.id∈X<;>simp only [c1,c2,if_true,if_false]<;>omega
theorem Valid.ag0 {L:List (List Int)} (hL:∀ X∈L,X∈bF p\/X=[]) (f:Pt×Pt->Int) (g:Pt->Pt->Int) (hfg:∀ a b,f (a,b) % 2=g a b % 2):((L.flatMap (bP p)).map f).sum % 2=bZ p (oQ L) g % 2:=by
 induction L with
 | nil =>
  have:bZ p (oQ []) g=0:=PN fun a ha=>.inl rfl
  rw [this];rfl
 | cons X L ih =>
  rw [List.flatMap_cons,List.map_append,List.sum_append];have e:bZ p (oQ (X::L)) g=bZ p (aG X) g+bZ p (oQ L) g:=by
   rw [<- Gs];rfl
  have ih:=ih (fun Y hY=>hL Y (List.mem_cons_of_mem _ hY));rw [e];rcases hL X List.mem_cons_self with hX | hX
  ·have:=h.apH hX f g hfg
   omega
  ·subst hX
   have:bZ p (aG []) g=0:=PN fun a ha=>.inl rfl
   rw [this];have e2:((bP p []).map f).sum=0:=rfl;omega
end
end Go.Proofs.YtialfdomhoojiaaGreat
