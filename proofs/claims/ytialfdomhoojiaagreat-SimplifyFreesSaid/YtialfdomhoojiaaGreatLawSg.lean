import Derived.Test.YtialfdomhoojiaaGreatAwS
set_option linter.unusedSimpArgs false
set_option linter.unusedVariables false
namespace Go.Proofs.YtialfdomhoojiaaGreat
open Go.RowKit
theorem ai9 (v:Value) (p:Pl) (arc i:Int) (w:World) (h:dh w v p) :
  Calls Tryz.prog 11 #[v,.int .i64 arc,.int .i64 i] w fun e w'=>e=.returned (.bool true)/\Below w.heap.size w w':=ai0 ai2 v p arc i w h
end Go.Proofs.YtialfdomhoojiaaGreat
