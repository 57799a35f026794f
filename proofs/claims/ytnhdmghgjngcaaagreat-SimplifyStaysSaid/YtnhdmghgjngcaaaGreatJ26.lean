import Derived.Test.YtnhdmghgjngcaaaGreatGB
import Derived.Test.YtnhdmghgjngcaaaGreatJ18
import Derived.Test.YtnhdmghgjngcaaaGreatJ02
import Derived.Test.YtnhdmghgjngcaaaGreatJ17
import Derived.Test.YtnhdmghgjngcaaaGreatJ25
import Derived.Test.YtnhdmghgjngcaaaGreatJ07
import Derived.Deep.CutBlock
set_option linter.unusedSimpArgs false
set_option linter.unusedVariables false
namespace Go.Proofs.YtnhdmghgjngcaaaGreat
open Go.RowKit

structure Facing (g k:Ed):Prop where
 up:k.upright=g.upright
 line:k.line=g.line
 lo:k.lo=g.lo
 hi:k.hi=g.hi
 pos:posS k = !posS g
section
variable {g k:Ed} (h:Facing g k)
include h
end
end Go.Proofs.YtnhdmghgjngcaaaGreat
