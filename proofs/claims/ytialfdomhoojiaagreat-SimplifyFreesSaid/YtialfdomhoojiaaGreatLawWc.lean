import Derived.Test.YtialfdomhoojiaaGreatJ22
import Derived.Test.YtialfdomhoojiaaGreatJ12
import Derived.Test.YtialfdomhoojiaaGreatJ09
import Derived.Test.YtialfdomhoojiaaGreatJ19
import Derived.Test.YtialfdomhoojiaaGreatJ15
import Derived.Test.YtialfdomhoojiaaGreatGB
import Derived.Test.YtialfdomhoojiaaGreatJ13
set_option linter.unusedSimpArgs false
set_option linter.unusedVariables false
namespace Go.Proofs.YtialfdomhoojiaaGreat
open Go.RowKit
set_option maxRecDepth 100000 in
set_option maxHeartbeats 8000000 in
theorem air (v:Value) (p:Pl) (w:World) (h:dh w v p) (hv:mg p≠0):Calls Tryz.prog 57 #[v] w (YD w [] (mg p)):=by
 have oQ:=Lib.hid (fun W (hW:Below w.heap.size w W)=>WG v p W (h.mono hW));obtain ⟨vn,va,vf,al,rfl,-⟩:=h;generalize mg p=z at *;have he:(z != 0)=true:=by simpa using hv
 clear hv;go_enter Tryz.func57,Tryz.ntmps57;go_wp2_with fail;refine (oQ.out _ (bA (bR w) _)).mono ?_;rintro e w1 ⟨rfl,hb1⟩;have B1:=Lib.hid (bT (bA (bR w) _) hb1);clear hb1 oQ;go_wp2_with fail;go_ret2;exact ⟨none,0,[],rfl,B1.out,rfl,Own.nil _ _ _ _ _,fun x hx=>by cases hx⟩
end Go.Proofs.YtialfdomhoojiaaGreat
