import Derived.Test.YtnhdmghgjngcaaaGreatJ25
import Derived.Test.YtnhdmghgjngcaaaGreatJ14
import Derived.Test.YtnhdmghgjngcaaaGreatJ13
import Derived.Test.YtnhdmghgjngcaaaGreatJ26
import Derived.Test.YtnhdmghgjngcaaaGreatJ04
import Derived.Test.YtnhdmghgjngcaaaGreatJ17
import Derived.Test.YtnhdmghgjngcaaaGreatJ01
import Derived.Test.YtnhdmghgjngcaaaGreatGB
import Derived.Test.YtnhdmghgjngcaaaGreatJ27
set_option linter.unusedSimpArgs false
set_option linter.unusedVariables false
namespace Go.Proofs.YtnhdmghgjngcaaaGreat
open Go.RowKit

def fcdL (p:Pl) (O:List (List Int)) (L:List AD) (k:Nat):List AD:=(List.range L.length).map fun i=>{L.getD i ad0 with tw:=if i<k then fcI p O i else 0}
theorem fcdL_len (p:Pl) (O:List (List Int)) (L:List AD) (k:Nat):(fcdL p O L k).length=L.length:=by unfold fcdL;simp
theorem fcdL_at {p:Pl} {O:List (List Int)} {L:List AD} {k i:Nat} (hi:i<(fcdL p O L k).length) (hl:i<L.length):(fcdL p O L k)[i] = {L[i] with tw:=if i<k then fcI p O i else 0}:=by
 simp only [fcdL,List.getElem_map,List.getElem_range,List.getD_eq_getElem?_getD,List.getElem?_eq_getElem hl,Option.getD_some]
theorem fcdL_mem {p:Pl} {O:List (List Int)} {L:List AD} {k:Nat} {x:AD} (hx:x∈fcdL p O L k):∃ y∈L,∃ t,x = {y with tw:=t}:=by
 obtain ⟨i,hi,rfl⟩:=List.mem_iff_getElem.1 hx
 have hl:i<L.length:=by rw [fcdL_len] at hi;exact hi
 exact ⟨L[i],List.getElem_mem hl,_,fcdL_at hi hl⟩
theorem fcdL_div {p:Pl} {O:List (List Int)} {L:List AD} {R:List (List Int)} {N:List Nd} (h:DivA p L O R N) (k:Nat):DivA p (fcdL p O L k) O R N:=by
 refine ⟨?_,fun i hi=>?_,fun i hi=>?_⟩
 ·
  rw [← h.out]
  apply List.ext_getElem (by simp [fcdL_len])
  intro i h1 h2
  have h3:i<L.length:=by simpa using h2
  rw [List.getElem_map,List.getElem_map,fcdL_at _ h3]
 ·
  have h3:i<L.length:=by rw [fcdL_len] at hi;exact hi
  rw [fcdL_at hi h3];exact h.inn i h3
 ·
  have h3:i<L.length:=by rw [fcdL_len] at hi;exact hi
  rw [fcdL_at hi h3];exact h.alo i h3

end Go.Proofs.YtnhdmghgjngcaaaGreat
