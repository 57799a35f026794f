import Derived.Test.YtpempeioeiaijaaGreatGB
import Derived.Test.YtpempeioeiaijaaGreatJ15
import Derived.Test.YtpempeioeiaijaaGreatJ13
import Derived.Test.YtpempeioeiaijaaGreatGE
import Derived.Test.YtpempeioeiaijaaGreatJ08
import Derived.Test.YtpempeioeiaijaaGreatJ16
import Derived.Test.YtpempeioeiaijaaGreatJ12
import Derived.Test.YtpempeioeiaijaaGreatJ11
import Derived.Test.YtpempeioeiaijaaGreatJ17
import Derived.Test.YtpempeioeiaijaaGreatJ01
set_option linter.unusedSimpArgs false
set_option linter.unusedVariables false
namespace Go.Proofs.YtpempeioeiaijaaGreat
open Go.RowKit

theorem gS {w0 w1:World} {g:Nat} (h:w0.grownBy w1 (some g)) (i:Nat) (u:Value):w0.grownBy (w1.setCell ⟨g,i,none⟩ u) (some g):=by
 refine gT h ⟨rfl,rfl,rfl,?_,fun j _ hne=>?_⟩
 · simp
 · exact Below.heap_setCell w1 ⟨g,i,none⟩ u j (fun e=>hne (by rw [e]))

end Go.Proofs.YtpempeioeiaijaaGreat
namespace Go.Proofs.YtpempeioeiaijaaGreat
open Go.RowKit

theorem gFar {w0 w1 w2:World} {row r:Option Nat} (h:w0.grownBy w1 row) (k:w1.grownBy w2 r) (hr:∀ g,r=some g→w0.heap.size≤g):w0.grownBy w2 row :=
 ⟨k.os.trans h.os,k.tape.trans h.tape,k.output.trans h.output,Nat.le_trans h.size k.size,fun i hi hne=>by
  rw [k.block i (Nat.lt_of_lt_of_le hi h.size) (fun e=>by have:=hr i e.symm;omega)]
  exact h.block i hi hne⟩
theorem at_ge {n m:Nat} {v v':Value} (hat:v'.ownBlock=v.ownBlock∨v'.ownBlock=some m) (h1:∀ q,v.ownBlock=some q→n≤q) (h2:n≤m):∀ q,v'.ownBlock=some q→n≤q:=fun q hq=>by
 rcases hat with h | h
 · exact h1 q (h.symm.trans hq)
 ·
  rw [hq] at h
  have:=Option.some.inj h
  omega
end Go.Proofs.YtpempeioeiaijaaGreat
namespace Go.Proofs.YtpempeioeiaijaaGreat

structure Cr where
 pos:Int
 arc:Int
 out:Int
instance:DecidableEq Cr:=fun a b =>
 if h:a.pos=b.pos∧a.arc=b.arc∧a.out=b.out then isTrue (by cases a;cases b;simp_all) else isFalse (by rintro rfl;simp at h)
end Go.Proofs.YtpempeioeiaijaaGreat
namespace Go.Proofs.YtpempeioeiaijaaGreat
open Go.RowKit

structure Pc where
 arc:Int
 path:List Pt
 enter:Int
 leave:Int
structure Prt where
 sheet:Int
 pieces:List Pc
 nodes:List Nd
section
variable {w w':World} {v:Value}
end
section
variable {w:World} {A:Option Addr}
end
end Go.Proofs.YtpempeioeiaijaaGreat
namespace Go.Proofs.YtpempeioeiaijaaGreat
open Go.RowKit

structure Ed where
 side:Int
 upright:Bool
 line:Int
 lo:Int
 hi:Int
def posS (g:Ed):Bool:=decide (g.side=1) || decide (g.side=2)
end Go.Proofs.YtpempeioeiaijaaGreat
