import Derived.Test.YtpempeioeiaijaaGreatJ17
import Derived.Test.YtpempeioeiaijaaGreatJ13
import Derived.SizedLaws
set_option linter.unusedSimpArgs false
set_option linter.unusedVariables false
namespace Go.Proofs.YtpempeioeiaijaaGreat
open Go.RowKit Go.ChangeShapes Go.WideShapes Go.Deep Go.Joins Tryz
instance:Inhabited (SV×List Pt):=⟨(⟨none,0,0⟩,[])⟩
section
variable {H:Type} {enc:TypeId×Value->H} {w:World} {base:Nat} {spare:Nat->Bool} {held:Bool}
theorem ayI (x:SV×List Pt):(Kw x).length=1:=rfl
theorem ayJ {fuel:Nat} {cs:List Value} {x:DataW H×List MemPlace} (h:DataW.trod enc prog w base spare held fuel 25 cs=some x):∃ y:SV×List Pt,cs=Kw y/\CZ w (BF y.1) y.2:=by
 obtain ⟨l,⟨v,rfl,hp⟩,-⟩:=auW h;obtain ⟨A,c,hv,r⟩:=hp;subst hv;exact ⟨(⟨A,l.length,c⟩,l),rfl,⟨A,c,rfl,r⟩⟩
set_option maxRecDepth 100000 in
theorem FY.ayK {v:Value} {d:DataW H} {ps:List MemPlace} (h:DataW.Trod enc prog w base spare held 22 v d ps) (hv:∃ A n c,v=.slice A n c):∃ xs,FY w v xs:=by
 obtain ⟨fuel,hf⟩:=h;obtain ⟨A,n,c,rfl⟩:=hv;obtain ⟨pl,⟨u1,e1,hp⟩,wp⟩:=alT Kw (fun y=>CZ w (BF y.1) y.2) Tryz.underlying22 Gl ayI (fun _ _ _ h=>ayJ h) hf;simp only [Value.cells,List.cons.injEq,and_true] at e1;subst e1;exact ⟨pl,hp,fun k hk=>wp _ (BO hk)⟩
end
