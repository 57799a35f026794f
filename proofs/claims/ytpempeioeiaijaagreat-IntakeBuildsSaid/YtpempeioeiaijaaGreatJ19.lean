import Derived.Test.YtpempeioeiaijaaGreatJ16
import Derived.Test.YtpempeioeiaijaaGreatJ18
set_option linter.unusedSimpArgs false
set_option linter.unusedVariables false
namespace Go.Proofs.YtpempeioeiaijaaGreat
open Go.RowKit
theorem Own.aw0 {e:TypeId} {w:World} {B g n c:Nat} {L:List AD} (h:Own w B e 4 F9 (.slice (some ⟨g,0,none⟩) n c) L) {k:Nat} (hk:k<L.length):g<w.heap.size/\(∀ j,w.frozen? ⟨g,j,none⟩=false) /\
  w.cell? ⟨g,k*4,none⟩=some (.int .i64 L[k].tw)/\w.cell? ⟨g,k*4+1,none⟩=some (BF L[k].ov)/\w.cell? ⟨g,k*4+2,none⟩=some (BF L[k].iv)/\w.cell? ⟨g,k*4+3,none⟩=some (BF L[k].av):=by
 obtain ⟨g',hg,-,h1,h2,h3⟩:=Own.Ol h AA;injection hg with hg;injection hg with hg _ _;subst hg;exact ⟨h1,h2,h3 k hk⟩
