import Derived.Test.YtpempeioeiaijaaGreatJ14
set_option linter.unusedSimpArgs false
set_option linter.unusedVariables false
namespace Go.Proofs.YtpempeioeiaijaaGreat
open Go.RowKit
set_option linter.unusedSectionVars false
def HW (p:Pl) (z:Int->Int):Prop:=∀ a∈p.AQ,z a.id≠0->(Hz p z (-a.id)=0/\Hz p z a.id=1)\/(Hz p z (-a.id)=1/\Hz p z a.id=0)
section
variable {p:Pl} (h:Valid p)
include h
end
structure Place (p:Pl) (φ:(Int->Int)->Int) (off:(Int->Int)->Prop):Prop where
 add:∀ z u,φ (fun i=>z i+u i)=φ z+φ u
 neg:∀ z,φ (fun i=>-z i)=-φ z
 azT:∀ z u,(∀ a∈p.AQ,z a.id=u a.id)->φ z=φ u
 azU:∀ z u,off z->off u->off (fun i=>z i+u i)
 azV:∀ z,off z->off (fun i=>-z i)
 w01:∀ z,GR p z->HW p z->off z->φ z=0\/φ z=1
section
variable {p:Pl} (h:Valid p) {φ:(Int->Int)->Int} {off:(Int->Int)->Prop} (hφ:Place p φ off) (ho:∀ X∈Ci p,off (CX X))
include h hφ ho
end
set_option linter.unusedSectionVars false
section
variable {p:Pl} (h:Valid p)
include h
theorem Valid.axl {X:List Int} (hX:X∈Cb p):X.headD 0∈X:=by
 obtain ⟨x,-,-,ex,hx⟩:=h.Pe hX;rw [ex];exact hx
end
section
variable {p:Pl} (h:Valid p) {φ:(Int->Int)->Int} {off:(Int->Int)->Prop} (hφ:Place p φ off) (ho:∀ X∈Ci p,off (CX X))
include h hφ
include ho
end
