import Derived.Test.YtialfdomhoojiaaGreatJ26
set_option linter.unusedSimpArgs false
set_option linter.unusedVariables false
namespace Go.Proofs.YtialfdomhoojiaaGreat
open Go.ChangeShapes Go.WideShapes Go.ChangeAt Go.RowKit Go.Joins
set_option maxRecDepth 100000 in
theorem axb {H:Type} {enc:TypeId×Value->H} {w:World} {base:Nat} {spare:Nat->Bool} {held:Bool} {r:Reach} {b0:Nat} {v:Value} {d:DataW H} {ps:List MemPlace}
  (hv:Value.okWide Tryz.prog w r b0 39 v) (h:DataW.Trod enc Tryz.prog w base spare held 39 v d ps):∃ q:Pt,v=BD q/\ps=[]:=by
 obtain ⟨v0,v1,y0,y1,n,rfl,-,rfl,h0,h1⟩:=open_agg2 Tryz.underlying39 FC aCb hv h;obtain ⟨a,e0,x0,-⟩:=DataW.trod_int Tryz.underlying3 h0;obtain ⟨b,e1,x1,-⟩:=DataW.trod_int Tryz.underlying3 h1;simp only [List.cons.injEq,and_true] at e0 e1;subst e0 e1 x0 x1;exact ⟨⟨a,b⟩,rfl,rfl⟩
