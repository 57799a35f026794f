import Derived.Test.YtialfdomhoojiaaGreatJ37
import Derived.Test.YtialfdomhoojiaaGreatJ34
set_option linter.unusedSimpArgs false
set_option linter.unusedVariables false
namespace Go.Proofs.YtialfdomhoojiaaGreat
open Go.RowKit
theorem atZ {a:Int} (h:(Lit.int .u8 a).wf=true):0<=a/\a<=255:=by
 simp [Lit.wf,IntKind.min,IntKind.max,IntKind.signed,IntKind.bits] at h;omega
theorem at1 (a:Int) (n:Nat) (ha:0<=a/\a<=255) (hn:0<n):∃ i:Nat,i<n/\IntKind.i64.wrap a=a/\a.tmod (n:Int)=(i:Int):=by
 obtain ⟨m,rfl⟩:∃ m:Nat,a=m:=⟨a.toNat,by omega⟩;exact ⟨m % n,Nat.mod_lt _ hn,IntWalk.i64_in _ (by omega),by rw [Int.tmod_eq_emod_of_nonneg (by omega)];rfl⟩
end Go.Proofs.YtialfdomhoojiaaGreat
