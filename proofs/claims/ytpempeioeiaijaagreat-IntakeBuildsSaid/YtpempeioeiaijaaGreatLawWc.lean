import Derived.Test.YtpempeioeiaijaaGreatJ17
import Derived.Test.YtpempeioeiaijaaGreatJ16
set_option linter.unusedSimpArgs false
set_option linter.unusedVariables false
set_option maxRecDepth 100000
set_option maxHeartbeats 8000000
namespace Go.Proofs.YtpempeioeiaijaaGreat
open Go.RowKit Tryz
theorem ald (v:Value) (p:Pl) (w:World) (h:D6 w v p) (hv:Gn p≠0):Calls prog 70 #[v] w (afl w [] (Gn p)):=by
 have Fe:=AB (fun W (hW:AU w W)=>adL v p W (h.mono hW));obtain ⟨vn,va,vf,al,rfl,-⟩:=h;generalize Gn p=z at *;have he:(z != 0)=true:=by simpa using hv
 clear hv;go_enter func70,ntmps70;go_wp2_with fail;refine (Fe.1 _ (bA (bR w) _)).mono ?_;rintro e w1 ⟨rfl,hb1⟩;have B1:=AB (bT (bA (bR w) _) hb1);clear hb1 Fe;go_wp2_with fail;go_ret2;exact ⟨none,0,[],rfl,B1.1,rfl,Own.nil _ _ _ _ _,fun x hx=>by cases hx⟩
