import Derived.Test.YtialfdomhoojiaaGreatJ08
import Derived.Test.YtialfdomhoojiaaGreatJ12
import Derived.Test.YtialfdomhoojiaaGreatJ13
import Derived.Test.YtialfdomhoojiaaGreatJ19
set_option linter.unusedSimpArgs false
set_option linter.unusedVariables false
namespace Go.Proofs.YtialfdomhoojiaaGreat
open Go.RowKit
section
variable {p:Pl} (h:Valid p)
include h
theorem Valid.TY {a:Ar} (ha:a∈p.ah) {k:Nat} (hk:k<(au p a).length):oW ((au p a).getD k aB):=by
 rw [List.getD_eq_getElem?_getD,List.getElem?_eq_getElem hk];exact h.Xx ha (List.getElem_mem hk)
theorem Valid.afz {n:Nd} (hn:n∈p.nodes):oW n.pt:=by
 have hr:=h.rng;unfold wQ at hr;simp only [Bool.and_eq_true,List.all_eq_true] at hr;exact adK (hr.2 _ (List.mem_append_left _ (List.mem_map_of_mem hn)))
end
set_option linter.unusedSectionVars false
theorem afA {α:Type} (t:α->Int) (q:α->Bool):∀ (l:List α),(∃ x∈l,q x=true)->∃ x∈l,q x=true/\∀ y∈l,q y=true->t y<=t x
 | [],h=>by obtain ⟨x,hx,_⟩:=h;cases hx
 | a::l,h=>by
  by_cases hl:∃ x∈l,q x=true
  ·obtain ⟨x,hx,h1,h2⟩:=afA t q l hl;by_cases ha:q a=true/\t x<t a
   ·refine ⟨a,List.mem_cons_self,ha.1,fun y hy hq=>?_⟩;rcases List.mem_cons.1 hy with rfl | hy
    · exact Int.le_refl _
    · have:=h2 y hy hq;omega
   ·refine ⟨x,List.mem_cons_of_mem _ hx,h1,fun y hy hq=>?_⟩;rcases List.mem_cons.1 hy with rfl | hy
    ·have:¬ t x<t y:=fun g=>ha ⟨hq,g⟩
     omega
    · exact h2 y hy hq
  ·obtain ⟨x,hx,h1⟩:=h;rcases List.mem_cons.1 hx with rfl | hx
   ·refine ⟨x,List.mem_cons_self,h1,fun y hy hq=>?_⟩;rcases List.mem_cons.1 hy with rfl | hy
    · exact Int.le_refl _
    · exact absurd ⟨y,hy,hq⟩ hl
   · exact absurd ⟨x,hx,h1⟩ hl
theorem O1 {α:Type} {q:α->Bool}:∀ {l:List α},l.Nodup->∀ {x:α},x∈l->q x=true->(∀ y∈l,q y=true->y=x)->(l.filter q).length=1
 | [],_,x,hx,_,_=>by cases hx
 | a::l,hn,x,hx,hq,hu=>by
  obtain ⟨ha,hn'⟩:=List.nodup_cons.1 hn;rw [List.filter_cons];by_cases c:q a=true
  ·have e:=hu a List.mem_cons_self c;subst e;rw [if_pos c,List.filter_eq_nil_iff.2 (fun y hy hqy=>ha (by rw [<- hu y (List.mem_cons_of_mem _ hy) hqy];exact hy))];rfl
  ·rw [if_neg c];rcases List.mem_cons.1 hx with rfl | hx
   · exact absurd hq c
   · exact O1 hn' hx hq fun y hy=>hu y (List.mem_cons_of_mem _ hy)
theorem Ua {α:Type} {q:α->Bool} {l:List α} (h:∀ y∈l,q y=true->False):(l.filter q).length=0:=by
 rw [List.filter_eq_nil_iff.2 (fun y hy hq=>h y hy hq)];rfl
section
variable {α:Type} {O:List α} (hn:O.Nodup) {E:α->Bool} {ar:α->Int} {A:α->α->Bool}
 (h1:∀ Y∈O,∀ Z∈O,E Y=true->E Z=true->Y≠Z->A Z Y=true\/A Y Z=true)
 (h2:∀ Y∈O,∀ Z∈O,A Z Y=true->ar Y<ar Z)
 (h3:∀ Y∈O,∀ Z∈O,A Z Y=true->E Y=true->E Z=true)
include hn h1 h2 h3
theorem an9 [DecidableEq α] {X:α} (hX:X∈O):((O.filter (fun Y=>E Y && decide (kW (fun Z=>A Z Y) ar O=some X))).length:Int)=(if E X=true then 1 else 0)-(if kW E ar O=some X then 1 else 0):=by
 by_cases eX:E X=true
 ·rw [if_pos eX];by_cases eb:kW E ar O=some X
  ·rw [if_pos eb,Ua]
   · rfl
   ·intro Y hY hq;rw [Bool.and_eq_true,decide_eq_true_eq] at hq;obtain ⟨-,b1,-⟩:=Ie _ _ hq.2;obtain ⟨-,-,b2⟩:=Ie _ _ eb;have:=b2 Y hY hq.1
    have:=h2 Y hY X hX b1
    omega
  ·rw [if_neg eb];obtain ⟨Y0,hY0,q0,m0⟩:=afA ar (fun Y=>E Y && decide (ar Y<ar X)) O (by
    have:=YC E ar O
    cases e:kW E ar O with
    | none=>rw [e] at this;have:=this X hX;rw [eX] at this;cases this
    | some W =>
     rw [e] at this;obtain ⟨w1,w2,w3⟩:=this;have hne:W≠X:=fun g=>eb (by rw [e,g]);refine ⟨W,w1,?_⟩;rw [Bool.and_eq_true,decide_eq_true_eq];refine ⟨w2,?_⟩;have:=w3 X hX eX
     rcases h1 W w1 X hX w2 eX hne with g | g
     · exact h2 W w1 X hX g
     · have:=h2 X hX W w1 g;omega)
   rw [Bool.and_eq_true,decide_eq_true_eq] at q0;have aX:A X Y0=true:=by
    rcases h1 Y0 hY0 X hX q0.1 eX (fun g=>by rw [g] at q0;omega) with g | g
    · exact g
    · have:=h2 X hX Y0 hY0 g;omega
   rw [O1 hn hY0]
   · rfl
   ·rw [Bool.and_eq_true,decide_eq_true_eq];refine ⟨q0.1,?_⟩;have:=YC (fun Z=>A Z Y0) ar O
    cases e:kW (fun Z=>A Z Y0) ar O with
    | none=>rw [e] at this;have:=this X hX;rw [aX] at this;cases this
    | some W =>
     rw [e] at this;obtain ⟨w1,w2,w3⟩:=this;have g1:=w3 X hX aX;have eW:=h3 Y0 hY0 W w1 w2 q0.1;have g2:=h2 Y0 hY0 W w1 w2;by_cases hne:W=X
     · rw [hne]
     ·have g3:ar W<ar X:=by
       rcases h1 W w1 X hX eW eX hne with g | g
       · exact h2 W w1 X hX g
       · have:=h2 X hX W w1 g;omega
      have:=m0 W w1 (by rw [Bool.and_eq_true,decide_eq_true_eq];exact ⟨eW,g3⟩)
      omega
   ·intro Y hY hq;rw [Bool.and_eq_true,decide_eq_true_eq] at hq;obtain ⟨-,b1,b2⟩:=Ie _ _ hq.2;have g1:=h2 Y hY X hX b1;have g2:=m0 Y hY (by rw [Bool.and_eq_true,decide_eq_true_eq];exact ⟨hq.1,g1⟩);by_cases hne:Y=Y0
    · exact hne
    ·exfalso;rcases h1 Y hY Y0 hY0 hq.1 q0.1 hne with g | g
     · have:=b2 Y0 hY0 g;omega
     · have:=h2 Y0 hY0 Y hY g;omega
 ·rw [if_neg eX,if_neg (fun g=>eX (Ie _ _ g).2.1),Ua]
  · rfl
  ·intro Y hY hq;rw [Bool.and_eq_true,decide_eq_true_eq] at hq;obtain ⟨-,b1,-⟩:=Ie _ _ hq.2;exact eX (h3 Y hY X hX b1 hq.1)
end
set_option linter.unusedSectionVars false
def qB (p:Pl) (Z Y:List Int):Bool:=decide (aS p p.ah.length (Z.headD 0)≠aS p p.ah.length (Y.headD 0)) && decide (Hz p (aU Z) (Y.headD 0)=1)
def HW (p:Pl) (z:Int->Int):Prop:=∀ a∈p.ah,z a.id≠0->(Hz p z (-a.id)=0/\Hz p z a.id=1)\/(Hz p z (-a.id)=1/\Hz p z a.id=0)
section
variable {p:Pl} (h:Valid p)
include h
theorem Valid.Zx {X Y:List Int} (hX:X∈aN p) (jh:Y∈aN p) (FI:X≠Y) :
  (HW p (fun i=>aU X i+aU Y i)/\qB p X Y=false/\qB p Y X=false) \/
  (HW p (fun i=>aU X i + -aU Y i)/\eY p Y<eY p X/\qB p X Y=true/\qB p Y X=false) \/
  (HW p (fun i=>aU Y i + -aU X i)/\eY p X<eY p Y/\qB p Y X=true/\qB p X Y=false):=by
 obtain ⟨hX,Ub⟩:=kH.1 hX;obtain ⟨jh,Uc⟩:=kH.1 jh;obtain ⟨x,hxd,-,ex,hx⟩:=h.o7 hX;obtain ⟨y,hyd,-,ey,hy⟩:=h.o7 jh;unfold qB;rw [ex,ey];have zX:=h.rJ hX;have zY:=h.rJ jh;have both:∀ d,¬ (d∈X/\d∈Y):=fun d hd=>FI (h.Oc hX jh hd.1 hd.2);have dm:∀ a∈p.ah,a.id∈aQ p/\-a.id∈aQ p:=fun a ha=>⟨jD.2 ⟨a,ha,.inl rfl⟩,jD.2 ⟨a,ha,.inr rfl⟩⟩;have sup:∀ a∈p.ah,(aU X a.id≠0\/aU Y a.id≠0)->(aS p p.ah.length a.id=aS p p.ah.length x/\aS p p.ah.length (-a.id)=aS p p.ah.length x)\/(aS p p.ah.length a.id=aS p p.ah.length y/\aS p p.ah.length (-a.id)=aS p p.ah.length y):=by
  intro a ha hne;by_cases c:aU X a.id=0
  · exact .inr (h.Yv jh hy ha (hne.resolve_left (fun g=>g c)))
  · exact .inl (h.Yv hX hx ha c)
 have jump:∀ a∈p.ah,Hz p (aU X) a.id-Hz p (aU X) (-a.id)=aU X a.id/\Hz p (aU Y) a.id-Hz p (aU Y) (-a.id)=aU Y a.id:=fun a ha=>⟨h.Dc zX ha,h.Dc zY ha⟩;have rW:∀ (P:Prop) [Decidable P],(if P then (1:Int) else 0)=0\/(if P then (1:Int) else 0)=1:=fun P _=>by split<;>simp
 by_cases hc:aS p p.ah.length x=aS p p.ah.length y
 ·refine .inl ⟨fun a ha hne=>?_,by simp [hc],by simp [hc]⟩;rw [h.xB,h.xB];have hne':aU X a.id+aU Y a.id≠0:=hne;have hs:aS p p.ah.length a.id=aS p p.ah.length x/\aS p p.ah.length (-a.id)=aS p p.ah.length x:=by
   rcases sup a ha (by omega) with g | g
   · exact g
   · rw [hc];exact g
  have j:=jump a ha;have a1:=h.Di hX Ub hx (dm a ha).1 hs.1;have a2:=h.Di hX Ub hx (dm a ha).2 hs.2;have a3:=h.Di jh Uc hy (dm a ha).1 (hs.1.trans hc);have a4:=h.Di jh Uc hy (dm a ha).2 (hs.2.trans hc);have b1:=both a.id;have b2:=both (-a.id);have t1:Hz p (aU X) a.id+Hz p (aU Y) a.id=0\/Hz p (aU X) a.id+Hz p (aU Y) a.id=1:=by
   rw [a1,a3];by_cases c1:a.id∈X<;>by_cases c2:a.id∈Y<;>simp only [c1,c2,if_true,if_false] at b1 ⊢ <;> simp at b1 ⊢
  have t2:Hz p (aU X) (-a.id)+Hz p (aU Y) (-a.id)=0\/Hz p (aU X) (-a.id)+Hz p (aU Y) (-a.id)=1:=by
   rw [a2,a4];by_cases c1:-a.id∈X<;>by_cases c2:-a.id∈Y<;>simp only [c1,c2,if_true,if_false] at b2 ⊢ <;> simp at b2 ⊢
  omega
 ·obtain ⟨α01,αc⟩:=h.Yx hX Ub hx hyd (fun e=>hc e.symm);obtain ⟨β01,βc⟩:=h.Yx jh Uc hy hxd hc;have BL:∀ d∈aQ p,aS p p.ah.length d=aS p p.ah.length x->Hz p (aU X) d=(if d∈X then 1 else 0)/\Hz p (aU Y) d=Hz p (aU Y) x:=fun d hd hs=>⟨h.Di hX Ub hx hd hs,βc d hd hs⟩;have DJ:∀ d∈aQ p,aS p p.ah.length d=aS p p.ah.length y->Hz p (aU Y) d=(if d∈Y then 1 else 0)/\Hz p (aU X) d=Hz p (aU X) y:=fun d hd hs=>⟨h.Di jh Uc hy hd hs,αc d hd hs⟩;have r1:decide (aS p p.ah.length x≠aS p p.ah.length y)=true:=by simpa using hc
  have r2:decide (aS p p.ah.length y≠aS p p.ah.length x)=true:=by simpa using fun e=>hc (Eq.symm e)
  rw [r1,r2,Bool.true_and,Bool.true_and];generalize Hz p (aU X) y=α at *;generalize Hz p (aU Y) x=β at *;rcases α01 with α0 | α1<;>rcases β01 with β0 | β1
  ·refine .inl ⟨fun a ha hne=>?_,by simp [α0],by simp [β0]⟩;rw [h.xB,h.xB];have hne':aU X a.id+aU Y a.id≠0:=hne;have j:=jump a ha;rcases sup a ha (by omega) with g | g
   ·obtain ⟨e1,e2⟩:=BL _ (dm a ha).1 g.1;obtain ⟨e3,e4⟩:=BL _ (dm a ha).2 g.2;have i1:=rW (a.id∈X);have i2:=rW (-a.id∈X);omega
   ·obtain ⟨e1,e2⟩:=DJ _ (dm a ha).1 g.1;obtain ⟨e3,e4⟩:=DJ _ (dm a ha).2 g.2;have i1:=rW (a.id∈Y);have i2:=rW (-a.id∈Y);omega
  ·have hw:HW p (fun i=>aU Y i + -aU X i):=fun a ha hne=>by
    rw [h.xB,h.xB,h.Kz,h.Kz];have hne':aU Y a.id + -aU X a.id≠0:=hne;have j:=jump a ha;rcases sup a ha (by omega) with g | g
    ·obtain ⟨e1,e2⟩:=BL _ (dm a ha).1 g.1;obtain ⟨e3,e4⟩:=BL _ (dm a ha).2 g.2;have i1:=rW (a.id∈X);have i2:=rW (-a.id∈X);omega
    ·obtain ⟨e1,e2⟩:=DJ _ (dm a ha).1 g.1;obtain ⟨e3,e4⟩:=DJ _ (dm a ha).2 g.2;have i1:=rW (a.id∈Y);have i2:=rW (-a.id∈Y);omega
   refine .inr (.inr ⟨hw,?_,by simp [β1],by simp [α0]⟩);have hp:=(h.SE (zY.add zX.neg) hw).2 (Classical.byContradiction fun hno=>by
    have:=h.Yy (z:=fun i=>aU Y i + -aU X i) (fun a ha=>Classical.byContradiction fun e=>hno ⟨a,ha,e⟩) y
    obtain ⟨e1,e2⟩:=DJ y hyd rfl;rw [h.xB,h.Kz,e1,e2,if_pos hy] at this;omega)
   rw [SI,Oh,<- h.Oj hX,<- h.Oj jh] at hp;omega
  ·have hw:HW p (fun i=>aU X i + -aU Y i):=fun a ha hne=>by
    rw [h.xB,h.xB,h.Kz,h.Kz];have hne':aU X a.id + -aU Y a.id≠0:=hne;have j:=jump a ha;rcases sup a ha (by omega) with g | g
    ·obtain ⟨e1,e2⟩:=BL _ (dm a ha).1 g.1;obtain ⟨e3,e4⟩:=BL _ (dm a ha).2 g.2;have i1:=rW (a.id∈X);have i2:=rW (-a.id∈X);omega
    ·obtain ⟨e1,e2⟩:=DJ _ (dm a ha).1 g.1;obtain ⟨e3,e4⟩:=DJ _ (dm a ha).2 g.2;have i1:=rW (a.id∈Y);have i2:=rW (-a.id∈Y);omega
   refine .inr (.inl ⟨hw,?_,by simp [α1],by simp [β0]⟩);have hp:=(h.SE (zX.add zY.neg) hw).2 (Classical.byContradiction fun hno=>by
    have:=h.Yy (z:=fun i=>aU X i + -aU Y i) (fun a ha=>Classical.byContradiction fun e=>hno ⟨a,ha,e⟩) x
    obtain ⟨e1,e2⟩:=BL x hxd rfl;rw [h.xB,h.Kz,e1,e2,if_pos hx] at this;omega)
   rw [SI,Oh,<- h.Oj hX,<- h.Oj jh] at hp;omega
  ·exfalso;obtain ⟨a,ha,hne,hor⟩:=h.amr (zX.add zY) (Classical.byContradiction fun hno=>by
    have:=h.Yy (z:=fun i=>aU X i+aU Y i) (fun a ha=>Classical.byContradiction fun e=>hno ⟨a,ha,e⟩) x
    rw [h.xB] at this;obtain ⟨e1,e2⟩:=BL x hxd rfl;have i1:=rW (x∈X);omega)
   have hne':aU X a.id+aU Y a.id≠0:=hne;rw [h.xB,h.xB] at hor;rcases sup a ha (by omega) with g | g
   ·obtain ⟨e1,e2⟩:=BL _ (dm a ha).1 g.1;obtain ⟨e3,e4⟩:=BL _ (dm a ha).2 g.2;have i1:=rW (a.id∈X);have i2:=rW (-a.id∈X);omega
   ·obtain ⟨e1,e2⟩:=DJ _ (dm a ha).1 g.1;obtain ⟨e3,e4⟩:=DJ _ (dm a ha).2 g.2;have i1:=rW (a.id∈Y);have i2:=rW (-a.id∈Y);omega
theorem Valid.aoa {X Y:List Int} (hX:X∈aN p) (jh:Y∈aN p) (ha:qB p X Y=true):eY p Y<eY p X:=by
 by_cases FI:X=Y
 · subst FI;unfold qB at ha;simp at ha
 ·rcases h.Zx hX jh FI with ⟨-,g,-⟩ | ⟨-,g,-⟩ | ⟨-,-,-,g⟩
  · rw [g] at ha;cases ha
  · exact g
  · rw [g] at ha;cases ha
end
structure Place (p:Pl) (φ:(Int->Int)->Int) (off:(Int->Int)->Prop):Prop where
 add:∀ z u,φ (fun i=>z i+u i)=φ z+φ u
 neg:∀ z,φ (fun i=>-z i)=-φ z
 aob:∀ z u,(∀ a∈p.ah,z a.id=u a.id)->φ z=φ u
 afB:∀ z u,off z->off u->off (fun i=>z i+u i)
 aoc:∀ z,off z->off (fun i=>-z i)
 Zy:∀ z,fZ p z->HW p z->off z->φ z=0\/φ z=1
section
variable {p:Pl} (h:Valid p) {φ:(Int->Int)->Int} {off:(Int->Int)->Prop} (hφ:Place p φ off) (ho:∀ X∈aN p,off (aU X))
include h hφ ho
theorem Place.afC {X:List Int} (hX:X∈aN p):φ (aU X)=0\/φ (aU X)=1:=by
 obtain ⟨h1,h2⟩:=kH.1 hX;exact hφ.Zy _ (h.rJ h1) (h.Yw h1 h2) (ho X hX)
theorem Place.two {X Y:List Int} (hX:X∈aN p) (jh:Y∈aN p) (FI:X≠Y) (e1:φ (aU X)=1) (e2:φ (aU Y)=1):qB p Y X=true\/qB p X Y=true:=by
 rcases h.Zx hX jh FI with ⟨g,-,-⟩ | ⟨-,-,g,-⟩ | ⟨-,-,g,-⟩
 ·have:=hφ.Zy _ ((h.rJ (kH.1 hX).1).add (h.rJ (kH.1 jh).1)) g (hφ.afB _ _ (ho X hX) (ho Y jh))
  rw [hφ.add,e1,e2] at this;omega
 · exact .inr g
 · exact .inl g
theorem Place.up {X Y:List Int} (hX:X∈aN p) (jh:Y∈aN p) (ha:qB p Y X=true) (e1:φ (aU X)=1):φ (aU Y)=1:=by
 have FI:X≠Y:=by rintro rfl;unfold qB at ha;simp at ha
 have e2:=Place.afC h hφ ho jh;rcases h.Zx hX jh FI with ⟨-,-,g⟩ | ⟨-,-,-,g⟩ | ⟨g,-,-,-⟩
 · rw [g] at ha;cases ha
 · rw [g] at ha;cases ha
 ·have:=hφ.Zy _ ((h.rJ (kH.1 jh).1).add (h.rJ (kH.1 hX).1).neg) g (hφ.afB _ _ (ho Y jh) (hφ.aoc _ (ho X hX)))
  rw [hφ.add,hφ.neg,e1] at this;omega
end
set_option linter.unusedSectionVars false
def vO (L:List (List Int)) (i:Int):Int:=(L.map fun c=>aU c i).sum
theorem Place.zero {p:Pl} {φ:(Int->Int)->Int} {off:(Int->Int)->Prop} (hφ:Place p φ off) {z:Int->Int} (h:∀ a∈p.ah,z a.id=0):φ z=0:=by
 have e:=hφ.add z z;have e2:=hφ.aob (fun i=>z i+z i) z (fun a ha=>by rw [h a ha];rfl);omega
theorem Place.sum {p:Pl} {φ:(Int->Int)->Int} {off:(Int->Int)->Prop} (hφ:Place p φ off):∀ L:List (List Int),φ (vO L)=(L.map fun c=>φ (aU c)).sum
 | []=>hφ.zero fun a _=>rfl
 | c::L=>by
  rw [List.map_cons,List.sum_cons,<- Place.sum hφ L,<- hφ.add];rfl
theorem Ud (l:List (List Int)) (q:List Int->Bool) (F:List Int->Int):((l.filter q).map F).sum=(l.map fun c=>if q c=true then F c else 0).sum:=by
 induction l with
 | nil=>rfl
 | cons c l ih =>
  rw [List.filter_cons,List.map_cons,List.sum_cons];by_cases e:q c=true
  · rw [if_pos e,if_pos e,List.map_cons,List.sum_cons,ih]
  · rw [if_neg e,if_neg e,ih];omega
theorem Zz (l:List (List Int)) (q:List Int->Bool):(l.map fun c=>if q c=true then (1:Int) else 0).sum=((l.filter q).length:Int):=by
 induction l with
 | nil=>rfl
 | cons c l ih =>
  rw [List.filter_cons,List.map_cons,List.sum_cons,ih];by_cases e:q c=true
  · rw [if_pos e,if_pos e,List.length_cons];omega
  · rw [if_neg e,if_neg e];omega
def gU (p:Pl) (c:List Int):Int:=aS p p.ah.length (c.headD 0)
section
variable {p:Pl} (h:Valid p)
include h
theorem Valid.IX {X:List Int} (hX:X∈aY p):X.headD 0∈X:=by
 obtain ⟨x,-,-,ex,hx⟩:=h.o7 hX;rw [ex];exact hx
theorem Valid.ZA {X:List Int} (hX:X∈aY p) {d:Int} (hd:d∈X):gU p X=aS p p.ah.length d:=h.yB hX (h.IX hX) hd
theorem Valid.aod (s:Int) {a:Ar} (ha:a∈p.ah):vO ((aY p).filter fun c=>decide (gU p c=s)) a.id=0:=by
 have one:∀ d∈aQ p,(((aY p).filter fun c=>decide (gU p c=s)).map fun c=>if d∈c then (1:Int) else 0).sum=if aS p p.ah.length d=s then 1 else 0:=by
  intro d hd;obtain ⟨c,hc,hdc,-⟩:=h.ER hd;have e:(((aY p).filter fun c=>decide (gU p c=s)).map fun c=>if d∈c then (1:Int) else 0)=(((aY p).filter fun c=>decide (gU p c=s)).map fun c=>if decide (d∈c)=true then (1:Int) else 0):=by
   congr 1;funext c;simp
  rw [e,Zz];by_cases g:aS p p.ah.length d=s
  ·rw [if_pos g,O1 (h.Tt.filter _) (x:=c)]
   · rfl
   ·rw [List.mem_filter,decide_eq_true_eq,h.ZA hc hdc];exact ⟨hc,g⟩
   · simpa using hdc
   ·intro y hy hdy;exact h.Oc (List.mem_filter.1 hy).1 hc (by simpa using hdy) hdc
  ·rw [if_neg g,Ua]
   · rfl
   ·intro y hy hdy;rw [List.mem_filter,decide_eq_true_eq] at hy;rw [h.ZA hy.1 (by simpa using hdy)] at hy;exact g hy.2
 have hma:a.id∈aQ p:=jD.2 ⟨a,ha,.inl rfl⟩;have e:vO ((aY p).filter fun c=>decide (gU p c=s)) a.id=(((aY p).filter fun c=>decide (gU p c=s)).map fun c=>if a.id∈c then (1:Int) else 0).sum-(((aY p).filter fun c=>decide (gU p c=s)).map fun c=>if -a.id∈c then (1:Int) else 0).sum:=by
  unfold vO aU;have:=rG ((aY p).filter fun c=>decide (gU p c=s)) (fun c=>if a.id∈c then (1:Int) else 0) (fun c=>-(if -a.id∈c then (1:Int) else 0))
  rw [uq] at this;simp only [<- Int.sub_eq_add_neg] at this;exact this
 rw [e,one _ hma,one _ (Bf hma),h.xq hma];omega
theorem Valid.afD {r:Int} (hr:r∈aQ p):∃ c∈iP p,gU p c=aS p p.ah.length r/\∀ X∈aY p,gU p X=aS p p.ah.length r->X≠c->X∈aN p:=by
 obtain ⟨d0,g1,g2,g3⟩:=h.SH hr;obtain ⟨c,hc,hdc,-⟩:=h.ER g1;have key:∀ X∈aY p,gU p X=aS p p.ah.length r->(0<eY p X↔d0∉X):=fun X hX e=>by
  have hh:=h.IX hX;have e':aS p p.ah.length (X.headD 0)=aS p p.ah.length r:=e;exact h.Yu hX hh g1 (by rw [g2,e']) (fun z hz hs=>g3 z hz (fun a ha hne=>by rw [hs a ha hne,e']))
 have ec:gU p c=aS p p.ah.length r:=by rw [h.ZA hc hdc,g2]
 refine ⟨c,zC.2 ⟨hc,fun hp=>((key c hc ec).1 hp) hdc⟩,ec,fun X hX e hne=>kH.2 ⟨hX,(key X hX e).2 fun hd=>hne (h.Oc hX hc hd hdc)⟩⟩
theorem Valid.ZC {X:List Int} (hX:X∈aY p):∃ a∈p.ah,(X.headD 0=a.id\/X.headD 0=-a.id)/\oO p X=(au p a).getD 0 aB/\aS p p.ah.length a.id=gU p X:=by
 have hd:=(h.kK hX).2 _ (h.IX hX);obtain ⟨a,ha,hor,hpt⟩:=h.BA hd;refine ⟨a,ha,hor,by unfold oO;rw [hpt],?_⟩;have hma:a.id∈aQ p:=jD.2 ⟨a,ha,.inl rfl⟩;unfold gU;rcases hor with e | e
 · rw [e]
 · rw [e,h.xq hma]
theorem Valid.afE {X Y:List Int} (hX:X∈aY p) (jh:Y∈aY p) (e:gU p X=gU p Y):iK p (oO p X)=iK p (oO p Y):=by
 obtain ⟨a,ha,-,e1,e2⟩:=h.ZC hX;obtain ⟨b,hb,-,e3,e4⟩:=h.ZC jh;rw [e1,e3];have la:=fJ p a;have lb:=fJ p b;exact h.amB ha hb (by rw [e2,e4,e]) (by omega) (by omega)
theorem Valid.aoe {Z Y:List Int} (hZ:Z∈aN p) (jh:Y∈aY p):encS p Z (oO p Y)=qB p Z Y:=by
 obtain ⟨a,ha,hor,e1,e2⟩:=h.ZC jh;have O4:=kH.1 hZ;have la:=fJ p a;have hk:0<(au p a).length:=by omega
 have hh:=h.IX O4.1;rw [e1];unfold qB;by_cases c:aS p p.ah.length (Z.headD 0)=aS p p.ah.length (Y.headD 0)
 ·rw [h.YE hZ hh ha (by rw [e2,c];rfl) hk];rw [decide_eq_false (by simpa using c)];rfl
 ·have hs:aS p p.ah.length a.id≠aS p p.ah.length (Z.headD 0):=fun g=>c (by rw [<- g,e2];rfl);have o1:=h.YD O4.1 hh ha hs hk;obtain ⟨w1,w2⟩:=h.SX (h.rJ O4.1) ha hk (h.SS (h.bV ha hk) o1);rw [Bool.eq_iff_iff,h.SQ O4.1 O4.2 (h.bV ha hk),w1];have e3:Hz p (aU Z) a.id=Hz p (aU Z) (Y.headD 0):=by
   rcases hor with e | e
   · rw [e]
   · rw [e,w2]
  rw [e3,decide_eq_true (show aS p p.ah.length (Z.headD 0)≠aS p p.ah.length (Y.headD 0) from c),Bool.true_and,decide_eq_true_eq];exact ⟨fun g=>g.2,fun g=>⟨o1,g⟩⟩
theorem Valid.aof {Y:List Int} (jh:Y∈aY p):iK p (oO p Y)=kW (fun Z=>qB p Z Y) (eY p) (aN p) :=
 afm fun Z hZ=>⟨h.aoe hZ jh,rfl⟩
end
section
variable {p:Pl} (h:Valid p) {φ:(Int->Int)->Int} {off:(Int->Int)->Prop} (hφ:Place p φ off) (ho:∀ X∈aN p,off (aU X))
include h hφ
theorem Place.inner {c:List Int} (hc:c∈iP p):φ (aU c)=-((aN p).map fun Y=>if gU p Y=gU p c then φ (aU Y) else 0).sum:=by
 obtain ⟨hc1,hc2⟩:=zC.1 hc;have hcd:=(h.kK hc1).2 _ (h.IX hc1);obtain ⟨c0,hc0,e0,hu⟩:=h.afD hcd;have hcc:c=c0:=Classical.byContradiction fun g=>hc2 (kH.1 (hu c hc1 rfl g)).2;subst hcc;have hs:=hφ.sum ((aY p).filter fun X=>decide (gU p X=gU p c));rw [hφ.zero (fun a ha=>h.aod (gU p c) ha),Ud] at hs;have e:((aY p).map fun X=>if decide (gU p X=gU p c)=true then φ (aU X) else 0).sum=((aN p).map fun X=>if gU p X=gU p c then φ (aU X) else 0).sum+((iP p).map fun X=>if gU p X=gU p c then φ (aU X) else 0).sum:=by
  unfold aN iP;rw [Ud,Ud,<- rG];refine fV _ _ _ fun X hX=>?_;by_cases g:0<eY p X<;>simp [g]
 have e2:((iP p).map fun X=>if gU p X=gU p c then φ (aU X) else 0).sum=φ (aU c):=by
  have:∀ X∈iP p,(if gU p X=gU p c then φ (aU X) else 0)=if decide (X=c)=true then φ (aU c) else 0:=fun X hX=>by
   by_cases g:X=c
   · subst g;simp
   ·have h1:=zC.1 hX;have n1:¬ gU p X=gU p c:=fun e=>h1.2 (kH.1 (hu X h1.1 e g)).2;rw [if_neg n1,if_neg (by simpa using g)]
  rw [fV _ _ _ this,<- Ud];have hf:((iP p).filter fun X=>decide (X=c)).length=1:=O1 (h.Tt.filter _) hc (by simp) (fun y _ hy=>by simpa using hy)
  match hm:(iP p).filter fun X=>decide (X=c),hf with
  | [Z],_=>simp
 rw [e,e2] at hs;omega
theorem Place.region (b:Option (List Int)):φ (vO (lW p b))=-((aN p).map fun Y=>if iK p (oO p Y)=b then φ (aU Y) else 0).sum:=by
 rw [hφ.sum];have e1:((lW p b).map fun c=>φ (aU c))=(lW p b).map fun c=>-((aN p).map fun Y=>if gU p Y=gU p c then φ (aU Y) else 0).sum:=by
  refine List.map_congr_left fun c hc=>?_;exact Place.inner h hφ (List.mem_filter.1 hc).1
 rw [e1,uq,XF];congr 1;refine fV _ _ _ fun Y hY=>?_;have jh:=kH.1 hY;obtain ⟨c0,hc0,e0,hu⟩:=h.afD ((h.kK jh.1).2 _ (h.IX jh.1));have hc0':=zC.1 hc0;have hh:=h.afE hc0'.1 jh.1 e0;have e2:((lW p b).map fun c=>if gU p Y=gU p c then φ (aU Y) else 0)=(lW p b).map fun c=>φ (aU Y)*(if decide (gU p Y=gU p c)=true then 1 else 0):=by
  refine List.map_congr_left fun c _=>?_;by_cases g:gU p Y=gU p c<;>simp [g]
 rw [e2,Bo,Zz];by_cases g:iK p (oO p Y)=b
 ·rw [if_pos g,O1 (l:=lW p b) ((h.Tt.filter _).filter _) (x:=c0)]
  · simp
  ·unfold lW;rw [List.mem_filter,decide_eq_true_eq];exact ⟨hc0,by rw [hh];exact g⟩
  · rw [decide_eq_true_eq];exact e0.symm
  ·intro c hc hq;rw [decide_eq_true_eq] at hq;have h1:=zC.1 (List.mem_filter.1 hc).1;exact Classical.byContradiction fun g=>h1.2 (kH.1 (hu c h1.1 hq.symm g)).2
 ·rw [if_neg g,Ua]
  · simp
  ·intro c hc hq;rw [decide_eq_true_eq] at hq;unfold lW at hc;rw [List.mem_filter,decide_eq_true_eq] at hc;have h1:=zC.1 hc.1;exact g (by rw [<- hc.2];exact h.afE jh.1 h1.1 hq)
include ho
theorem Place.home {X:List Int} (hX:X∈aN p):φ (vO (jq p (some X)))=if kW (fun Y=>decide (φ (aU Y)=1)) (eY p) (aN p)=some X then 1 else 0:=by
 have hn:(aN p).Nodup:=h.Zq;have e1:φ (vO (jq p (some X)))=φ (aU X)+φ (vO (lW p (some X))):=by
  rw [<- hφ.add];rfl
 have h01:=fun Y hY=>Place.afC h hφ ho (X:=Y) hY;have cs:=an9 hn (E:=fun Y=>decide (φ (aU Y)=1)) (ar:=eY p) (A:=qB p)
  (fun Y hY Z hZ e1 e2 hne=>by
   rcases Place.two h hφ ho hY hZ hne (by simpa using e1) (by simpa using e2) with g | g
   · exact .inl g
   · exact .inr g)
  (fun Y hY Z hZ g=>h.aoa hZ hY g)
  (fun Y hY Z hZ g e=>by
   have:=Place.up h hφ ho hY hZ g (by simpa using e)
   simpa using this) hX
 rw [e1,Place.region h hφ];have e2:((aN p).map fun Y=>if iK p (oO p Y)=some X then φ (aU Y) else 0).sum=(((aN p).filter fun Y=>decide (φ (aU Y)=1) && decide (kW (fun Z=>qB p Z Y) (eY p) (aN p)=some X)).length:Int):=by
  rw [<- Zz];refine fV _ _ _ fun Y hY=>?_;rw [h.aof (kH.1 hY).1];by_cases g:kW (fun Z=>qB p Z Y) (eY p) (aN p)=some X
  ·rw [if_pos g,decide_eq_true g,Bool.and_true];rcases h01 Y hY with e | e
   · rw [e];rfl
   · rw [e];rfl
  ·rw [if_neg g,decide_eq_false g,Bool.and_false];rfl
 rw [e2,cs];have key:∀ c b:Int,c=0\/c=1->c + -((if decide (c=1)=true then 1 else 0)-b)=b:=by
  intro c b hc;rcases hc with rfl | rfl<;>simp<;>omega
 exact key _ _ (h01 X hX)
end
set_option linter.unusedSectionVars false
section
variable {p:Pl} (h:Valid p)
include h
theorem Valid.aog {X:List Int} (hX:X∈aY p) (f:Pt×Pt->Int) (g:Pt->Pt->Int) (hfg:∀ a b,f (a,b) % 2=g a b % 2):((bU p X).map f).sum % 2=cu p (aU X) g % 2:=by
 obtain ⟨-,h2⟩:=h.kK hX;have e1:((bU p X).map f).sum=(X.map fun d=>jM (fun a b=>f (a,b)) (gu p d)).sum:=by
  unfold bU;rw [List.map_flatMap,Yh];refine fV _ _ _ fun d _=>?_;unfold gX jM;rw [List.map_map];rfl
 rw [e1,h.SG hX];unfold cu;refine SL _ _ _ fun a ha=>?_;have hid:=(h.jC ha).1;have p1:gu p a.id=au p a:=by
  unfold gu;rw [show gV a.id=a.id by unfold gV;split<;>omega,h.find ha]
 have p2:gu p (-a.id)=au p a:=by
  unfold gu;rw [show gV (-a.id)=a.id by unfold gV;split<;>omega,h.find ha]
 rw [p1,p2];have e:jM (fun a b=>f (a,b)) (au p a) % 2=jM g (au p a) % 2:=by
  unfold jM;exact SL _ _ _ fun k _=>hfg _ _
 generalize jM (fun a b=>f (a,b)) (au p a)=s at *;generalize jM g (au p a)=t at *;unfold aU;by_cases c1:a.id∈X<;>by_cases c2:-a.id∈X<;>simp only [c1,c2,if_true,if_false]<;>omega
theorem Valid.afF {L:List (List Int)} (hL:∀ X∈L,X∈aY p\/X=[]) (f:Pt×Pt->Int) (g:Pt->Pt->Int) (hfg:∀ a b,f (a,b) % 2=g a b % 2):((L.flatMap (bU p)).map f).sum % 2=cu p (vO L) g % 2:=by
 induction L with
 | nil =>
  have:cu p (vO []) g=0:=Oi fun a ha=>.inl rfl
  rw [this];rfl
 | cons X L ih =>
  rw [List.flatMap_cons,List.map_append,List.sum_append];have e:cu p (vO (X::L)) g=cu p (aU X) g+cu p (vO L) g:=by
   rw [<- SI];rfl
  have ih:=ih (fun Y hY=>hL Y (List.mem_cons_of_mem _ hY));rw [e];rcases hL X List.mem_cons_self with hX | hX
  ·have:=h.aog hX f g hfg
   omega
  ·subst hX
   have:cu p (aU []) g=0:=Oi fun a ha=>.inl rfl
   rw [this];have e2:((bU p []).map f).sum=0:=rfl;omega
end
set_option linter.unusedSectionVars false
theorem aoh (a b v:Pt):tw (gY a b) (kJ a b) v=if b.y<a.y then -tw a b v else tw a b v:=by
 unfold gY kJ;split
 · unfold tw;grind
 · rfl
theorem aoi {y:Int} {q:Pt×Pt} {x:Int}:((jg y q).countP (fun c=>decide (c<=x)):Int)+(if o8 ⟨x,y⟩ q.1 q.2=true then 1 else 0)=(jg y q).length:=by
 obtain ⟨a,b⟩:=q;have hp:o8 ⟨x,y⟩ a b=decide ((gY a b).y<=y/\y<(kJ a b).y/\0<tw (gY a b) (kJ a b) ⟨x,y⟩):=by
  rw [aoh];unfold o8 gY kJ;rw [decide_eq_decide]
  show (a.y<=y/\y<b.y/\0<tw a b ⟨x,y⟩)\/(b.y<=y/\y<a.y/\tw a b ⟨x,y⟩<0)↔_
  split<;>omega
 rw [hp];unfold jg;by_cases g:(gY a b).y<=y/\y<(kJ a b).y
 ·rw [if_pos g];have hH:0<(kJ a b).y-(gY a b).y:=by omega
  have e:(gY a b).x+zN y a b<=x↔¬ 0<tw (gY a b) (kJ a b) ⟨x,y⟩:=by
   unfold zN;have:=MR (r:=(y-(gY a b).y)*((kJ a b).x-(gY a b).x)) (t:=x-(gY a b).x) hH
   unfold tw;simp only;rw [Int.mul_comm ((kJ a b).x-(gY a b).x),Int.mul_comm ((kJ a b).y-(gY a b).y)];omega
  by_cases c:0<tw (gY a b) (kJ a b) ⟨x,y⟩
  ·have e':¬ (gY a b).x+zN y a b<=x:=fun g=>e.1 g c;simp [g,c,e']
  ·have e':=e.2 c;simp [c,e']
 ·rw [if_neg g];have:¬ ((gY a b).y<=y/\y<(kJ a b).y/\0<tw (gY a b) (kJ a b) ⟨x,y⟩):=fun c=>g ⟨c.1,c.2.1⟩
  simp [this]
theorem aoj (y:Int) (a b:Pt):((jg y (a,b)).length:Int) % 2=((if y<b.y then 1 else 0)-(if y<a.y then 1 else 0)) % 2:=by
 unfold jg gY kJ;by_cases c:b.y<a.y
 ·simp only [c,if_true];by_cases c1:b.y<=y/\y<a.y
  · rw [if_pos c1,if_neg (by omega),if_pos c1.2];rfl
  ·rw [if_neg c1];by_cases c2:y<b.y
   · rw [if_pos c2,if_pos (by omega)];rfl
   · rw [if_neg c2,if_neg (by omega)];rfl
 ·simp only [c,if_false];by_cases c1:a.y<=y/\y<b.y
  · rw [if_pos c1,if_pos c1.2,if_neg (by omega)];rfl
  ·rw [if_neg c1];by_cases c2:y<a.y
   · rw [if_pos c2,if_pos (by omega)];rfl
   · rw [if_neg c2,if_neg (by omega)];rfl
theorem afG (x:Int):∀ (n:Nat) (l:List Int),l.length=n->l.Pairwise (·<=·)->l.length % 2=0->(fP (kM l) x↔(l.countP (fun c=>decide (c<=x))) % 2=1)
 | _,[],_,_,_=>by unfold kM;exact ⟨fun g=>absurd g (Ag _),fun g=>by simp at g⟩
 | _,[a],_,_,h=>by simp at h
 | 0,a::b::l,hn,_,_=>by simp at hn
 | 1,a::b::l,hn,_,_=>by simp at hn
 | n+2,a::b::l,hn,hs,h=>by
  have h1:=List.pairwise_cons.1 hs;have h2:=List.pairwise_cons.1 h1.2;have ih:=afG x n l (by simpa using hn) h2.2 (by simp only [List.length_cons] at h;omega);have hab:=h1.1 b List.mem_cons_self;unfold kM;rw [xU,QI,ih];by_cases c1:a<=x
  ·by_cases c2:b<=x
   ·rw [List.countP_cons_of_pos (by simpa using c1),List.countP_cons_of_pos (by simpa using c2)];omega
   ·have:l.countP (fun c=>decide (c<=x))=0:=by
     rw [List.countP_eq_zero];intro c hc;have:=h2.1 c hc
     simp;omega
    rw [List.countP_cons_of_pos (by simpa using c1),List.countP_cons_of_neg (by simpa using c2),this];omega
  ·have:(a::b::l).countP (fun c=>decide (c<=x))=0:=by
    rw [List.countP_eq_zero];intro c hc;rcases List.mem_cons.1 hc with rfl | hc
    · simpa using c1
    ·have:=h1.1 c hc
     simp;omega
   have h3:l.countP (fun c=>decide (c<=x))=0:=by
    rw [List.countP_eq_zero] at this ⊢;exact fun c hc=>this c (List.mem_cons_of_mem _ (List.mem_cons_of_mem _ hc))
   rw [this,h3];omega
theorem afH (y x:Int):∀ S:List (Pt×Pt),((S.flatMap (jg y)).countP (fun c=>decide (c<=x)):Int)+(S.map fun q=>if o8 ⟨x,y⟩ q.1 q.2=true then (1:Int) else 0).sum=(S.flatMap (jg y)).length
 | []=>rfl
 | q::S=>by
  have e:=aoi (y:=y) (q:=q) (x:=x);have ih:=afH y x S;rw [List.flatMap_cons,List.countP_append,List.length_append,List.map_cons,List.sum_cons];omega
theorem afI (y:Int):∀ S:List (Pt×Pt),(((S.flatMap (jg y)).length:Nat):Int)=(S.map fun q=>((jg y q).length:Int)).sum
 | []=>rfl
 | q::S=>by
  have ih:=afI y S;rw [List.flatMap_cons,List.length_append,List.map_cons,List.sum_cons];omega
section
variable {p:Pl} (h:Valid p)
include h
theorem Valid.ZE {X:List Int} (hX:X∈aN p) {c:List Int} (hc:c∈jq p (some X)):c∈aY p:=by
 unfold jq at hc;rcases List.mem_cons.1 hc with rfl | hc
 · exact (kH.1 hX).1
 · exact (zC.1 (List.mem_filter.1 hc).1).1
theorem Valid.aok {L:List (List Int)} (hL:∀ c∈L,c∈aY p):fZ p (vO L):=by
 induction L with
 | nil=>exact fun n _=>yA _ _ fun a _=>by show (0:Int)*_=0;rw [Int.zero_mul]
 | cons c L ih=>exact (h.rJ (hL c List.mem_cons_self)).add (ih fun d hd=>hL d (List.mem_cons_of_mem _ hd))
theorem Valid.afJ {X:List Int} (hX:X∈aN p) (x y:Int):((iF p (some X)).flatMap (jg y)).length % 2=0 /\
  (((iF p (some X)).flatMap (jg y)).countP (fun c=>decide (c<=x)) % 2=1↔yC p (vO (jq p (some X))) ⟨x,y⟩ % 2=1):=by
 have hL:∀ c∈jq p (some X),c∈aY p\/c=[]:=fun c hc=>.inl (h.ZE hX hc);have e1:=h.afF hL (fun q=>((jg y q).length:Int)) (fun a b=>(if y<b.y then 1 else 0)-(if y<a.y then 1 else 0)) (fun a b=>aoj y a b);rw [h.Kr (h.aok fun c hc=>h.ZE hX hc) (fun u=>if y<u.y then 1 else 0)] at e1;have e2:=afI y (iF p (some X));have e3:=afH y x (iF p (some X));have e4:=h.afF hL (fun q=>if o8 ⟨x,y⟩ q.1 q.2=true then (1:Int) else 0) (vw ⟨x,y⟩) (fun a b=>by
  show (if o8 ⟨x,y⟩ a b=true then (1:Int) else 0) % 2=_
  rw [aez];unfold vw;split
  · rfl
  · split<;>rfl)
 unfold yC;unfold iF at e2 e3 ⊢;omega
theorem Valid.aol {X:List Int} (hX:X∈aN p) {q:Pt×Pt} (hq:q∈iF p (some X)):∃ a∈p.ah,(∃ c∈jq p (some X),a.id∈c\/-a.id∈c)/\∃ k,k+1<(au p a).length/\q=((au p a).getD k aB,(au p a).getD (k+1) aB):=by
 obtain ⟨c,hc,hq⟩:=List.mem_flatMap.1 hq;obtain ⟨a,ha,hor,k,hk,e⟩:=h.SN (h.kK (h.ZE hX hc)).2 hq;exact ⟨a,ha,⟨c,hc,hor⟩,k,hk,e⟩
end
end Go.Proofs.YtialfdomhoojiaaGreat
