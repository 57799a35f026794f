import Derived.Test.YtialfdomhoojiaaGreatJ34
set_option linter.unusedSimpArgs false
set_option linter.unusedVariables false
namespace Go.Proofs.YtialfdomhoojiaaGreat
open Go.RowKit
def atw:Prop:=∀ W,Calls Tryz.prog 37 #[] W fun e w'=>e=.returned (.bool true)/\Below W.heap.size W w'
theorem mF.ai3 {p:Pl} (h:Fe p 60=true):mF p/\(p.aj.flatMap (·.via)).length<=1048576:=by
 unfold Fe at h;have h:=of_decide_eq_true h;refine ⟨⟨by omega,by omega,fun a ha=>?_⟩,by omega⟩;obtain ⟨s,t,e⟩:=List.append_of_mem ha;have:=h.2.2.2
 rw [e] at this;simp only [List.flatMap_append,av5,avL] at this;omega
end Go.Proofs.YtialfdomhoojiaaGreat
