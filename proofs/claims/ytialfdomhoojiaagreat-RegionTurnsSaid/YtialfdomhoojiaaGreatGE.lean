import Derived.Test.YtialfdomhoojiaaGreatGD
set_option linter.unusedSimpArgs false
set_option linter.unusedVariables false
namespace Go.Proofs.YtialfdomhoojiaaGreat
open Go.RowKit
def nodeAt (p:Pl) (id:Int):Pt:=((mM p.nodes id).getD nd0).pt
def ak (p:Pl) (a:Ar):List Pt:=nodeAt p a.fr::(a.via++[nodeAt p a.dst])
def mP (p:Pl) (a:Ar):Bool:=(mM p.nodes a.fr).isSome && (mM p.nodes a.dst).isSome
def pathOf (p:Pl) (id:Int):Option (List Pt) :=
 match findAr p.ah id with
 | some a=>if mP p a then some (ak p a) else none
 | none=>none
def YF (w:World) (r:Option (List Pt)) (e:Ending) (w':World):Prop :=
 ∃ A c,e=.returned (.tuple #[.slice A (r.getD []).length c,.int .i64 (if r.isSome then 0 else 7)])/\Below w.heap.size w w'/\Own w' w.heap.size 39 2 jm (.slice A (r.getD []).length c) (r.getD [])
theorem YG {l:List Ar} {id:Int} {a:Ar} (h:findAr l id=some a):a∈l:=List.mem_of_find?_eq_some h
end Go.Proofs.YtialfdomhoojiaaGreat
