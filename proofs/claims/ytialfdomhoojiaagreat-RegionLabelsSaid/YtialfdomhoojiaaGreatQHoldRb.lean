import Derived.Test.YtialfdomhoojiaaGreatQLawRb
import Derived.Test.YtialfdomhoojiaaGreatQJ36
import Derived.Test.YtialfdomhoojiaaGreatRows
set_option linter.unusedSimpArgs false
set_option linter.unusedVariables false
namespace Go.Proofs.YtialfdomhoojiaaGreat
open Go.ChangeShapes Go.WideShapes Go.ChangeAt Go.RowKit Go.Joins
set_option maxRecDepth 100000 in
theorem ayR (os:Os) (started:os.Started) (H:Type) (enc:TypeId×Value->H) :
  ReturnsInHanded {} Tryz.checked os 4 .any (Rows.regionLabelsSpec.pre6 enc Tryz.prog Tryz.f4 Rows.regionLabelsRow.domain false) (Rows.regionLabelsSpec.post enc Tryz.prog Tryz.f4 false true false false):=by
 refine returnsInHanded_of_change_sized (C:=Tryz.checked) ayM started I8 Tryz.func4
  (ChangeSpec.witness6 (enc:=enc) (C:=Tryz.checked) false ⟨#[],#[.agg #[.slice none 0 0,.slice none 0 0,.slice none 0 0]],[]⟩ 8 I8 I8 I8 I8) ?_
 intro W base args ds gs before hval0 hW hcnd hsz _;have hval:∀ (j:Nat) t v,Tryz.f4.params[j]? = some t->args[j]? = some v->Value.okWide Tryz.prog W .any base t v:=hval0;have hW':=hW;obtain ⟨p,q,hA0,hV,rfl,hfz,hnd⟩:=hW;have hA:DataW.TrodAll enc Tryz.prog W 0 (fun _=>true) true Tryz.f4.params.toList args.toList ds p:=hA0;rw [Tryz.params4] at hA hval hsz;obtain ⟨v0,d0,rfl,rfl,h0⟩:=trodAll_one hA;obtain ⟨rfl,rfl⟩:=trodVars_none hV;have hk0:=h0;obtain ⟨x0,hX0,azZ,ayS⟩:=Ci.ayL (hval 0 26 v0 rfl rfl) h0 (fun n hn=>by
  have:=KU.1 hsz n (DataW.weights_mem_each (j:=0) (t:=26) (d:=d0) rfl rfl n hn)
  simpa using this)
 have hlt0:∀ x∈p,x.block<W.heap.size:=fun x hx=>by simpa using hW'.lt x (by simp [hx])
 clear hA0 hval0;simp only [JA] at hW';refine (axR _ x0 W hX0 ayS).mono fun e W' ⟨he,hb⟩=>?_;subst he;exact ⟨_,rfl,ayP hW' rfl hb (fun _ _ _=>trodAll_mk1 (shut_bool Tryz.underlying4 _))
  (fun sp hsp=>by
   have h:=trodAll_mk1 (ayO (sp:=sp) ayN I8 (of_decide_eq_true I8) hk0 hb (fun x hx=>hlt0 x hx) (fun x hx=>hsp x (by simp [hx])));exact h)
  rfl (ok_one I8 rfl (okWide_bool_mk Tryz.underlying4 _))⟩
theorem ayT:(Rows.regionLabelsRow.inPlace == Tryz.pinned.checked.prog.inPlace 4)=true:=by kernel_rfl
theorem ayU:(Rows.regionLabelsRow.unfollowed == Tryz.pinned.checked.prog.unfollowed 4)=true:=by kernel_rfl
theorem ayV:(Rows.regionLabelsRow.recurses == Tryz.pinned.checked.prog.recurses 4)=true:=by kernel_rfl
theorem ayW:(Rows.regionLabelsRow.named == Tryz.pinned.checked.prog.varsNamed 4)=true:=by kernel_rfl
theorem ayX:joinedFacts Tryz.pinned.checked.prog 4 Tryz.f4 Rows.regionLabelsSpec Rows.regionLabelsRow=true:=by
 unfold joinedFacts;rw [ayT,ayU,ayV,ayW]
 kernel_rfl
theorem regionLabels_holds:Rows.RegionLabelsSaid :=
 OpenClaim.holds_of_wide 4 Tryz.f4 rfl rfl rfl rfl rfl rfl rfl ⟨rfl,rfl,rfl,rfl,rfl⟩ rfl rfl rfl rfl rfl I8 Tryz.func4 ayX
  (of_decide_eq_true I8) (by unfold Func.isWrapper;first | (rw [AZ (by decide +kernel)];kernel_rfl) | (rw [AX (by decide +kernel)];exact ⟨rfl,rfl⟩))
  (fun os started H enc _=>ayR os started H enc)
#print axioms regionLabels_holds
