import Derived.Test.YtpempeioeiaijaaGreatJ20
import Derived.Test.YtpempeioeiaijaaGreatJ05
import Derived.Test.YtpempeioeiaijaaGreatJ15
import Derived.SizedLaws
set_option linter.unusedSimpArgs false
set_option linter.unusedVariables false
namespace Go.Proofs.YtpempeioeiaijaaGreat
open Go.RowKit Go.ChangeShapes Go.WideShapes Go.Deep Go.Joins

instance:Inhabited (SV×List Pt):=⟨(⟨none,0,0⟩,[])⟩
section
variable {H:Type} {enc:TypeId×Value→H} {w:World} {base:Nat} {spare:Nat→Bool} {held:Bool}
theorem llC_len_ (x:SV×List Pt):(llC x).length=1:=rfl
theorem trod_line {fuel:Nat} {cs:List Value} {x:DataW H×List MemPlace} (h:DataW.trod enc Tryz.prog w base spare held fuel 25 cs=some x):∃ y:SV×List Pt,cs=llC y∧Pts w (svV y.1) y.2:=by
 obtain ⟨l,⟨v,rfl,hp⟩,-⟩:=trod_pts h
 obtain ⟨A,c,hv,r⟩:=hp
 subst hv
 exact ⟨(⟨A,l.length,c⟩,l),rfl,⟨A,c,rfl,r⟩⟩
set_option maxRecDepth 100000 in
theorem Lns19.of_trod {v:Value} {d:DataW H} {ps:List MemPlace} (h:DataW.Trod enc Tryz.prog w base spare held 22 v d ps) (hv:∃ A n c,v=.slice A n c):∃ xs,Lns19 w v xs:=by
 obtain ⟨fuel,hf⟩:=h
 obtain ⟨A,n,c,rfl⟩:=hv
 obtain ⟨pl,⟨u1,e1,hp⟩,wp⟩:=sl_of llC (fun y=>Pts w (svV y.1) y.2) Tryz.underlying22 (by kernel_rfl) llC_len_ (fun _ _ _ h=>trod_line h) hf
 simp only [Value.cells,List.cons.injEq,and_true] at e1
 subst e1
 exact ⟨pl,hp,fun k hk=>wp _ (List.getElem_mem hk)⟩
end
end Go.Proofs.YtpempeioeiaijaaGreat
