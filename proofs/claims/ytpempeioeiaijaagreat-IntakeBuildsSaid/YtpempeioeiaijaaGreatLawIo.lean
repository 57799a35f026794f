import Derived.Test.YtpempeioeiaijaaGreatJ28
import Derived.Test.YtpempeioeiaijaaGreatRSm14
set_option linter.unusedSimpArgs false
set_option linter.unusedVariables false
namespace Go.Proofs.YtpempeioeiaijaaGreat
open Go.RowKit Go.Sort
def Few (L:List (List Pt)):Prop:=L.length<=14/\∀ l∈L,l.length<=70
theorem ayE (v:Value) (xs:List (SV×List Pt)) (w:World) (h:FY w v xs) (hl:Few (xs.map (·.2))):Calls Tryz.prog 18 #[v] w (Lu w (xs.map (·.2))):=by
 obtain ⟨h1,h2⟩:=hl;by_cases hz:GZ (xs.map (·.2))=0
 · exact acO v xs w h (Ve.1 hz)
 ·refine awQ v xs w h (by simp at h1;omega) (fun k hk=>?_) hz;have:=h2 _ (FZ (BO hk))
  omega
