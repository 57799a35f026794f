import Derived.Test.YtpempeioeiaijaaGreatGC
set_option linter.unusedSimpArgs false
set_option linter.unusedVariables false
namespace Go.Proofs.YtpempeioeiaijaaGreat
open Go.RowKit

def dupS (l:List Pt):Bool:=(List.range l.length).any fun i=>(l.take i).any fun p=>decide (l[i]? = some p)
theorem dup_yes (l:List Pt) (i k:Nat) (hk:k<i) (hi:i<l.length) (h:l[i]=l[k]'(by omega)):dupS l=true:=by
 unfold dupS
 refine List.any_eq_true.2 ⟨i,List.mem_range.2 hi,List.any_eq_true.2 ⟨l[k]'(by omega),?_,?_⟩⟩
 ·
  rw [List.mem_iff_getElem]
  exact ⟨k,by rw [List.length_take];omega,by simp⟩
 · rw [List.getElem?_eq_getElem hi,h];simp
theorem dup_no (l:List Pt) (h:∀ i k (hk:k<i) (hi:i<l.length),¬ l[i]=l[k]'(by omega)):dupS l=false:=by
 unfold dupS
 rw [List.any_eq_false]
 intro i hi
 have hi:=List.mem_range.1 hi
 simp only [Bool.not_eq_true]
 rw [List.any_eq_false]
 intro p hp
 obtain ⟨k,hk,rfl⟩:=List.mem_iff_getElem.1 hp
 rw [List.length_take] at hk
 have:=h i k (by omega) hi
 rw [List.getElem?_eq_getElem hi]
 simpa using this

end Go.Proofs.YtpempeioeiaijaaGreat
namespace Go.Proofs.YtpempeioeiaijaaGreat
open Go.RowKit

def rangesS (p:Pl):Bool:=!((p.nodes.map (·.id)++p.arcs.map (·.id)++p.faces).any idBad) && (pointsS p).all ptOk

end Go.Proofs.YtpempeioeiaijaaGreat
