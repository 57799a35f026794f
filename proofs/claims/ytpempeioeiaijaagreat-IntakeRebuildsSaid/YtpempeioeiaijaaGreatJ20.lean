import Derived.Test.YtpempeioeiaijaaGreatGB
import Derived.Test.YtpempeioeiaijaaGreatJ18
import Derived.Test.YtpempeioeiaijaaGreatJ04
import Derived.Test.YtpempeioeiaijaaGreatJ02
import Derived.Test.YtpempeioeiaijaaGreatJ19
import Derived.Test.YtpempeioeiaijaaGreatJ06
import Derived.Deep.CutBlock
set_option linter.unusedSimpArgs false
set_option linter.unusedVariables false
namespace Go.Proofs.YtpempeioeiaijaaGreat
open Go.RowKit

structure Facing (g k:Ed):Prop where
 up:k.upright=g.upright
 line:k.line=g.line
 lo:k.lo=g.lo
 hi:k.hi=g.hi
 pos:posS k = !posS g
section
variable {g k:Ed} (h:Facing g k)
include h
end
end Go.Proofs.YtpempeioeiaijaaGreat
