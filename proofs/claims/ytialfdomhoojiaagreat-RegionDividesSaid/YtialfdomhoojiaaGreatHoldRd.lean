import Derived.Test.YtialfdomhoojiaaGreatLawRd
import Derived.Test.YtialfdomhoojiaaGreatJ36
import Derived.Test.YtialfdomhoojiaaGreatRows
set_option linter.unusedSimpArgs false
set_option linter.unusedVariables false
namespace Go.Proofs.YtialfdomhoojiaaGreat
open Go.ChangeShapes Go.WideShapes Go.ChangeAt Go.RowKit Go.Joins
set_option maxRecDepth 100000 in
theorem axr (os:Os) (started:os.Started) (H:Type) (enc:TypeId×Value->H) :
  ReturnsInHanded {} Tryz.checked os 3 .any (Rows.regionDividesSpec.pre6 enc Tryz.prog Tryz.f3 Rows.regionDividesRow.domain false) (Rows.regionDividesSpec.post enc Tryz.prog Tryz.f3 false true false false):=by
 refine returnsInHanded_of_change_sized (C:=Tryz.checked) amn started FC Tryz.func3
  (ChangeSpec.witness6 (enc:=enc) (C:=Tryz.checked) false ⟨#[],#[.agg #[.slice none 0 0,.slice none 0 0,.slice none 0 0]],[]⟩ 8 FC FC FC FC) ?_
 intro W base args ds gs before hval0 hW hcnd hsz _;have hval:∀ (j:Nat) t v,Tryz.f3.params[j]? = some t->args[j]? = some v->Value.okWide Tryz.prog W .any base t v:=hval0;have hW':=hW;obtain ⟨p,q,hA0,hV,rfl,hfz,hnd⟩:=hW;have hA:DataW.TrodAll enc Tryz.prog W 0 (fun _=>true) true Tryz.f3.params.toList args.toList ds p:=hA0;rw [Tryz.params3] at hA hval hsz;obtain ⟨v0,d0,rfl,rfl,h0⟩:=trodAll_one hA;obtain ⟨rfl,rfl⟩:=trodVars_none hV;have hk0:=h0;obtain ⟨x0,hX0,axt,afu⟩:=Cb.amm (hval 0 26 v0 rfl rfl) h0 (fun n hn=>by
  have:=JF.1 hsz n (DataW.weights_mem_each (j:=0) (t:=26) (d:=d0) rfl rfl n hn)
  simpa using this)
 have hlt0:∀ x∈p,x.block<W.heap.size:=fun x hx=>by simpa using hW'.lt x (by simp [hx])
 clear hA0 hval0;simp only [IQ] at hW';refine (axk _ x0 W hX0 afu).mono fun e W' ⟨he,hb⟩=>?_;subst he;exact ⟨_,rfl,amo hW' rfl hb (fun _ _ _=>trodAll_mk1 (shut_bool Tryz.underlying4 _))
  (fun sp hsp=>by
   have h:=trodAll_mk1 (aft (sp:=sp) afs FC (of_decide_eq_true FC) hk0 hb (fun x hx=>hlt0 x hx) (fun x hx=>hsp x (by simp [hx])));exact h)
  rfl (ok_one FC rfl (okWide_bool_mk Tryz.underlying4 _))⟩
theorem axu:(Rows.regionDividesRow.inPlace == Tryz.pinned.checked.prog.inPlace 3)=true:=by kernel_rfl
theorem axv:(Rows.regionDividesRow.unfollowed == Tryz.pinned.checked.prog.unfollowed 3)=true:=by kernel_rfl
theorem axw:(Rows.regionDividesRow.recurses == Tryz.pinned.checked.prog.recurses 3)=true:=by kernel_rfl
theorem axx:(Rows.regionDividesRow.named == Tryz.pinned.checked.prog.varsNamed 3)=true:=by kernel_rfl
theorem axy:joinedFacts Tryz.pinned.checked.prog 3 Tryz.f3 Rows.regionDividesSpec Rows.regionDividesRow=true:=by
 unfold joinedFacts;rw [axu,axv,axw,axx]
 kernel_rfl
theorem regionDivides_holds:Rows.RegionDividesSaid :=
 OpenClaim.holds_of_wide 3 Tryz.f3 rfl rfl rfl rfl rfl rfl rfl ⟨rfl,rfl,rfl,rfl,rfl⟩ rfl rfl rfl rfl rfl FC Tryz.func3 axy
  (of_decide_eq_true FC) (by unfold Func.isWrapper;first | (rw [AZ (by decide +kernel)];kernel_rfl) | (rw [AX (by decide +kernel)];exact ⟨rfl,rfl⟩))
  (fun os started H enc _=>axr os started H enc)
#print axioms regionDivides_holds
