import Derived.Test.YtpempeioeiaijaaGreatJ17
import Derived.Test.YtpempeioeiaijaaGreatJ04
import Derived.Test.YtpempeioeiaijaaGreatJ10
import Derived.Maps.OwnSet
import Derived.Test.YtpempeioeiaijaaGreatJ19
import Derived.Test.YtpempeioeiaijaaGreatJ11
import Derived.Test.YtpempeioeiaijaaGreatJ21
import Derived.Test.YtpempeioeiaijaaGreatJ20
import Derived.Test.YtpempeioeiaijaaGreatJ01
import Derived.Test.YtpempeioeiaijaaGreatGB
import Derived.Test.YtpempeioeiaijaaGreatJ03
set_option linter.unusedSimpArgs false
set_option linter.unusedVariables false
namespace Go.Proofs.YtpempeioeiaijaaGreat
open Go.RowKit

theorem DivA.cys_at {p:Pl} {L:List AD} {O:List (List Int)} {N:List Nd} (h:DivA p L O (resX p) N) {i:Nat} (hi:i<L.length):(cysAD L[i]).map (·.1)=cyI p O i:=by
 have hl:=h.len
 unfold cysAD cyI cysX innX
 rw [List.map_cons,h.inn i hi]
 congr 1
 by_cases e:i=0
 · subst e;exact h.out_zero hi
 ·
  show L[i].out=_
  rw [h.out_at hi (by omega),keyA_some (by omega) (by omega)]
  rfl
section
variable {p:Pl} (h:Valid p)
include h
theorem Valid.cyI_dart {O:List (List Int)} (hO:∀ X∈O,X∈outX p) {i:Nat} {c:List Int} (hc:c∈cyI p O i) {d:Int} (hd:d∈c):d∈dartsD p:=by
 unfold cyI cysX at hc
 rcases List.mem_cons.1 hc with rfl | hc
 ·
  unfold keyA at hd
  split at hd
  · cases hd
  · cases e:O[i-1]? with
   | none=>rw [e] at hd;cases hd
   | some X =>
    rw [e] at hd
    exact (h.cyc_nodup (mem_outX.1 (hO X (List.mem_of_getElem? e))).1).2 d hd
 ·
  have:=List.mem_filter.1 hc
  exact (h.cyc_nodup (mem_resX.1 this.1).1).2 d hd
end
end Go.Proofs.YtpempeioeiaijaaGreat
namespace Go.Proofs.YtpempeioeiaijaaGreat
open Go.RowKit

theorem Own.ad_at {e:TypeId} {w:World} {B g n c:Nat} {L:List AD} (h:Own w B e 4 adC (.slice (some ⟨g,0,none⟩) n c) L) {k:Nat} (hk:k<L.length):g<w.heap.size∧(∀ j,w.frozen? ⟨g,j,none⟩=false) ∧
  w.cell? ⟨g,k*4,none⟩=some (.int .i64 L[k].tw)∧w.cell? ⟨g,k*4+1,none⟩=some (svV L[k].ov)∧w.cell? ⟨g,k*4+2,none⟩=some (svV L[k].iv)∧w.cell? ⟨g,k*4+3,none⟩=some (svV L[k].av):=by
 obtain ⟨g',hg,-,h1,h2,h3⟩:=Own.ad_cell h (by omega)
 injection hg with hg
 injection hg with hg _ _
 subst hg
 exact ⟨h1,h2,h3 k hk⟩
end Go.Proofs.YtpempeioeiaijaaGreat
