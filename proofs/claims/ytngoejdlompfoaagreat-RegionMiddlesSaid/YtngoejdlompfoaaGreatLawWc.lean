import Derived.Test.YtngoejdlompfoaaGreatJ17
set_option linter.unusedSimpArgs false
set_option linter.unusedVariables false
set_option maxRecDepth 100000
set_option maxHeartbeats 8000000
namespace Go.Proofs.YtngoejdlompfoaaGreat
open Go.RowKit Tryz
theorem avR(v:Value)(p:Pl)(w:World)(h:Cj w v p)(hv:LM p≠0):Calls prog 75 #[v] w<|adA w []<|LM p:=by
 have j:=V λW(hW:AU w W)=>afa v p W<|h.mono hW;obtain⟨C,K,M,al,rfl,-⟩:=h;generalize LM p=z at*;have T:(z !=0)=true:=by simpa using hv
 clear hv;go_enter func75,ntmps75;go_wp2_with fail;refine(j.1 _<|bA (bR w) _).mono ?_;rintro e w1⟨rfl,c⟩;have o:=V<|J (bA (bR w) _) c;clear c j;go_wp2_with fail;go_ret2;exact⟨none,0,[],rfl,o.1,rfl,Own.nil _ _ _ _ _,λx s=>by cases s⟩
