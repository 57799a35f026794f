import Derived.Test.YtnhdmghgjngcaaaGreatGD
set_option linter.unusedSimpArgs false
set_option linter.unusedVariables false
namespace Go.Proofs.YtnhdmghgjngcaaaGreat
open Go.RowKit

def nodeAt (p:Pl) (id:Int):Pt:=((findNd p.nodes id).getD nd0).pt
def pathS (p:Pl) (a:Ar):List Pt:=nodeAt p a.fr::(a.via++[nodeAt p a.dst])
def hasEnds (p:Pl) (a:Ar):Bool:=(findNd p.nodes a.fr).isSome && (findNd p.nodes a.dst).isSome
end Go.Proofs.YtnhdmghgjngcaaaGreat
namespace Go.Proofs.YtnhdmghgjngcaaaGreat
open Go.RowKit

def pathOf (p:Pl) (id:Int):Option (List Pt) :=
 match findAr p.arcs id with
 | some a=>if hasEnds p a then some (pathS p a) else none
 | none=>none
def RetPathE (w:World) (r:Option (List Pt)) (e:Ending) (w':World):Prop :=
 ∃ A c,e=.returned (.tuple #[.slice A (r.getD []).length c,.int .i64 (if r.isSome then 0 else 7)])∧Below w.heap.size w w'∧Own w' w.heap.size 36 2 ptC (.slice A (r.getD []).length c) (r.getD [])

theorem findAr_mem {l:List Ar} {id:Int} {a:Ar} (h:findAr l id=some a):a∈l:=List.mem_of_find?_eq_some h
end Go.Proofs.YtnhdmghgjngcaaaGreat
