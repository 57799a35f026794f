import Derived.Test.YtpempeioeiaijaaGreatJ07
import Derived.Test.YtpempeioeiaijaaGreatJ06
set_option linter.unusedSimpArgs false
set_option linter.unusedVariables false
namespace Go.Proofs.YtpempeioeiaijaaGreat
open Go.RowKit

def ltF (v u a b:Pt):Int:=cr1 a b v-(if a=v∧dirLt v u b then 1 else 0)+(if b=v∧dirLt v u a then 1 else 0)
def ltW (p:Pl) (z:Int→Int) (v u:Pt):Int:=wnS p z (ltF v u)
section
variable {p:Pl} (h:Valid p)
include h
end
end Go.Proofs.YtpempeioeiaijaaGreat
namespace Go.Proofs.YtpempeioeiaijaaGreat
open Go.RowKit

section
variable {p:Pl} (h:Valid p)
include h
end
def Hz (p:Pl) (z:Int→Int) (d:Int):Int:=ltW p z (nodeAt p (startD p d)) (toD p d)
section
variable {p:Pl} (h:Valid p)
include h
end
end Go.Proofs.YtpempeioeiaijaaGreat
namespace Go.Proofs.YtpempeioeiaijaaGreat
open Go.RowKit
set_option linter.unusedSectionVars false

def rtE (p:Pl) (k:Nat) (x:Int):Int:=pw (eulSt p k).1 x (p.arcs.length+1)
def treeA (p:Pl) (k:Nat) (a:Ar):Prop:=rtE p k a.fr≠rtE p k a.dst
instance (p:Pl) (k:Nat) (a:Ar):Decidable (treeA p k a):=by unfold treeA;infer_instance
section
variable {p:Pl} (h:Valid p)
include h
end
section
variable {p:Pl} (h:Valid p)
include h
end
end Go.Proofs.YtpempeioeiaijaaGreat
namespace Go.Proofs.YtpempeioeiaijaaGreat
open Go.RowKit
set_option linter.unusedSectionVars false

section
variable {p:Pl} (h:Valid p)
include h
theorem Valid.cyc_one {c c':List Int} (hc:c∈cyclesD p) (hc':c'∈cyclesD p) {y:Int} (h1:y∈c) (h2:y∈c'):c=c':=by
 have hnd:=h.cyc.nodup
 rw [List.nodup_iff_pairwise_ne,List.pairwise_flatten] at hnd
 have hpw:=hnd.2
 rw [List.pairwise_iff_getElem] at hpw
 obtain ⟨i,hi,rfl⟩:=List.mem_iff_getElem.1 hc
 obtain ⟨j,hj,rfl⟩:=List.mem_iff_getElem.1 hc'
 rcases Nat.lt_trichotomy i j with h3 | h3 | h3
 · exact absurd rfl (hpw i j hi hj h3 _ h1 _ h2)
 · subst h3;rfl
 · exact absurd rfl (hpw j i hj hi h3 _ h2 _ h1)
theorem Valid.cyc_form {c:List Int} (hc:c∈cyclesD p):∃ x∈dartsD p,c=orb (nextD p) (dartsD p) x∧c.headD 0=x∧x∈c:=by
 obtain ⟨x,hx,e,-⟩:=h.cyc.orbs c hc
 have hf:=orb_facts (fun x hx=>(h.next_mem hx).1) (fun x hx y hy=>h.next_inj hx hy) hx
 refine ⟨x,hx,e,?_,by rw [e];exact head_orb hf.1⟩
 rw [e]
 unfold orb
 obtain ⟨m,hm⟩:∃ m,orbN (nextD p) (dartsD p) x=m+1:=⟨orbN (nextD p) (dartsD p) x-1,by have:=hf.1;omega⟩
 rw [hm]
 rfl
end
end Go.Proofs.YtpempeioeiaijaaGreat
