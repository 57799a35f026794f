import Derived.Test.YtialfdomhoojiaaGreatGD
set_option linter.unusedSimpArgs false
set_option linter.unusedVariables false
namespace Go.Proofs.YtialfdomhoojiaaGreat
open Go.RowKit
def nodeAt (p:Pl) (id:Int):Pt:=((mJ p.nodes id).getD nd0).pt
def au (p:Pl) (a:Ar):List Pt:=nodeAt p a.fr::(a.via++[nodeAt p a.dst])
def qZ (p:Pl) (a:Ar):Bool:=(mJ p.nodes a.fr).isSome && (mJ p.nodes a.dst).isSome
def pathOf (p:Pl) (id:Int):Option (List Pt) :=
 match findAr p.ah id with
 | some a=>if qZ p a then some (au p a) else none
 | none=>none
def WC (w:World) (r:Option (List Pt)) (e:Ending) (w':World):Prop :=
 ∃ A c,e=.returned (.tuple #[.slice A (r.getD []).length c,.int .i64 (if r.isSome then 0 else 7)])/\Below w.heap.size w w'/\Own w' w.heap.size 39 2 iV (.slice A (r.getD []).length c) (r.getD [])
theorem WE {l:List Ar} {id:Int} {a:Ar} (h:findAr l id=some a):a∈l:=List.mem_of_find?_eq_some h
end Go.Proofs.YtialfdomhoojiaaGreat
