import Derived.Test.YtialfdomhoojiaaGreatQJ23
import Derived.Test.YtialfdomhoojiaaGreatQJ24
set_option linter.unusedSimpArgs false
set_option linter.unusedVariables false
set_option maxRecDepth 100000
set_option maxHeartbeats 8000000
namespace Go.Proofs.YtialfdomhoojiaaGreat
open Go.RowKit
theorem akz (v:Value) (p:Pl) (w:World) (h:Ci w v p) (hv:IG p≠0):Calls Tryz.prog 57 #[v] w (aeM w [] (IG p)):=by
 have GV:=AA (fun W (hW:AU w W)=>agz v p W (h.mono hW));obtain ⟨vn,va,vf,al,rfl,-⟩:=h;generalize IG p=z at *;have he:(z != 0)=true:=by simpa using hv
 clear hv;go_enter Tryz.func57,Tryz.ntmps57;go_wp2_with fail;refine (GV.out _ (bA (bR w) _)).mono ?_;rintro e w1 ⟨rfl,hb1⟩;have B1:=AA (bT (bA (bR w) _) hb1);clear hb1 GV;go_wp2_with fail;go_ret2;exact ⟨none,0,[],rfl,B1.out,rfl,Own.nil _ _ _ _ _,fun x hx=>by cases hx⟩
