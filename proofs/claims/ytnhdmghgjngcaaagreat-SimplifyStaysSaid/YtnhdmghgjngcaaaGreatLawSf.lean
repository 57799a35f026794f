import Derived.Test.YtnhdmghgjngcaaaGreatJ17
import Derived.Test.YtnhdmghgjngcaaaGreatJ02
import Derived.Test.YtnhdmghgjngcaaaGreatGB
import Derived.Test.YtnhdmghgjngcaaaGreatJ18
import Derived.Test.YtnhdmghgjngcaaaGreatJ19
import Derived.Test.YtnhdmghgjngcaaaGreatGE
import Derived.Test.YtnhdmghgjngcaaaGreatJ20
import Derived.Test.YtnhdmghgjngcaaaGreatJ21
import Derived.Test.YtnhdmghgjngcaaaGreatGC
import Derived.Test.YtnhdmghgjngcaaaGreatJ01
import Derived.Test.YtnhdmghgjngcaaaGreatGD
set_option linter.unusedSimpArgs false
set_option linter.unusedVariables false
namespace Go.Proofs.YtnhdmghgjngcaaaGreat
open Go.RowKit

def Aw34:Prop:=∀ W,Calls Tryz.prog 8 #[] W fun e w'=>e=.returned (.bool true)∧Below W.heap.size W w'
theorem Mod34.of_few {p:Pl} (h:fewS p 60=true):Mod34 p∧(p.arcs.flatMap (·.via)).length≤1048576:=by
 unfold fewS at h
 have h:=of_decide_eq_true h
 refine ⟨⟨by omega,by omega,fun a ha=>?_⟩,by omega⟩
 obtain ⟨s,t,e⟩:=List.append_of_mem ha
 have:=h.2.2.2
 rw [e] at this
 simp only [List.flatMap_append,List.flatMap_cons,List.length_append] at this
 omega

end Go.Proofs.YtnhdmghgjngcaaaGreat
