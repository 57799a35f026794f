import Derived.Test.YtialfdomhoojiaaGreatGC
set_option linter.unusedSimpArgs false
set_option linter.unusedVariables false
namespace Go.Proofs.YtialfdomhoojiaaGreat
open Go.RowKit
def AB (l:List Pt):Bool:=(List.range l.length).any fun i=>(l.take i).any fun p=>decide (l[i]? = some p)
theorem ace (l:List Pt) (i k:Nat) (hk:k<i) (hi:i<l.length) (h:l[i]=l[k]'(by omega)):AB l=true:=by
 unfold AB;refine List.any_eq_true.2 ⟨i,List.mem_range.2 hi,List.any_eq_true.2 ⟨l[k]'(by omega),?_,?_⟩⟩
 ·rw [List.mem_iff_getElem];exact ⟨k,by rw [List.length_take];omega,by simp⟩
 · rw [List.getElem?_eq_getElem hi,h];simp
theorem acf (l:List Pt) (h:∀ i k (hk:k<i) (hi:i<l.length),¬ l[i]=l[k]'(by omega)):AB l=false:=by
 unfold AB;rw [List.any_eq_false];intro i hi;have hi:=List.mem_range.1 hi;simp only [Bool.not_eq_true];rw [List.any_eq_false];intro p hp;obtain ⟨k,hk,rfl⟩:=List.mem_iff_getElem.1 hp;rw [List.length_take] at hk;have:=h i k (by omega) hi
 rw [List.getElem?_eq_getElem hi];simpa using this
def AO (l:List Pt) (p:Pt):Nat:=(l.filter fun q=>decide (q=p)).length
def wQ (p:Pl):Bool:=!((p.nodes.map (·.id)++p.ah.map (·.id)++p.faces).any qK) && (Az p).all qL
end Go.Proofs.YtialfdomhoojiaaGreat
