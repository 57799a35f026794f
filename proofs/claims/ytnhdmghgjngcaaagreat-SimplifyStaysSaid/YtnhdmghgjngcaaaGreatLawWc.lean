import Derived.Test.YtnhdmghgjngcaaaGreatJ24
import Derived.Test.YtnhdmghgjngcaaaGreatJ14
import Derived.Test.YtnhdmghgjngcaaaGreatJ09
import Derived.Test.YtnhdmghgjngcaaaGreatJ22
import Derived.Test.YtnhdmghgjngcaaaGreatJ17
import Derived.Test.YtnhdmghgjngcaaaGreatGB
import Derived.Test.YtnhdmghgjngcaaaGreatJ15
set_option linter.unusedSimpArgs false
set_option linter.unusedVariables false
namespace Go.Proofs.YtnhdmghgjngcaaaGreat
open Go.RowKit

set_option maxRecDepth 100000 in
set_option maxHeartbeats 8000000 in
theorem Cycles_bad (v:Value) (p:Pl) (w:World) (h:PlV w v p) (hv:checkS p≠0):Calls Tryz.prog 40 #[v] w (RetCys w [] (checkS p)):=by
 have HCk:=Lib.hid (fun W (hW:Below w.heap.size w W)=>Check_spec v p W (h.mono hW))
 obtain ⟨vn,va,vf,al,rfl,-⟩:=h
 generalize checkS p=z at *
 have he:(z != 0)=true:=by simpa using hv
 clear hv
 go_enter Tryz.func40,Tryz.ntmps40
 go_wp2_with fail
 refine (HCk.out _ (bA (bR w) _)).mono ?_
 rintro e w1 ⟨rfl,hb1⟩
 have B1:=Lib.hid (bT (bA (bR w) _) hb1)
 clear hb1 HCk
 go_wp2_with fail
 go_ret2
 exact ⟨none,0,[],rfl,B1.out,rfl,Own.nil _ _ _ _ _,fun x hx=>by cases hx⟩
end Go.Proofs.YtnhdmghgjngcaaaGreat
