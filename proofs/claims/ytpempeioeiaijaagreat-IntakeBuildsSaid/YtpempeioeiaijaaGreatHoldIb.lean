import Derived.Test.YtpempeioeiaijaaGreatLawIb
import Derived.Test.YtpempeioeiaijaaGreatJ29
import Derived.Test.YtpempeioeiaijaaGreatRows
set_option linter.unusedSimpArgs false
set_option linter.unusedVariables false
namespace Go.Proofs.YtpempeioeiaijaaGreat
open Go.ChangeShapes Go.WideShapes Go.ChangeAt Go.RowKit Go.Joins
set_option maxRecDepth 100000 in
theorem ayL (os:Os) (started:os.Started) (H:Type) (enc:TypeId×Value->H) :
  ReturnsInHanded {} Tryz.checked os 8 .any (Rows.intakeBuildsSpec.pre6 enc Tryz.prog Tryz.f8 Rows.intakeBuildsRow.domain false) (Rows.intakeBuildsSpec.post enc Tryz.prog Tryz.f8 false true false false):=by
 refine returnsInHanded_of_change (C:=Tryz.checked) awu started Gl Tryz.func8
  (ChangeSpec.witness6 (enc:=enc) (C:=Tryz.checked) false ⟨#[],#[.slice none 0 0],[]⟩ 8 Gl Gl Gl Gl) ?_
 intro W base args ds gs before hval0 hW hcnd _;have hval:∀ (j:Nat) t v,Tryz.f8.params[j]? = some t->args[j]? = some v->Value.okWide Tryz.prog W .any base t v:=hval0;have hW':=hW;obtain ⟨p,q,hA0,hV,rfl,hfz,hnd⟩:=hW;have hA:DataW.TrodAll enc Tryz.prog W 0 (fun _=>true) true Tryz.f8.params.toList args.toList ds p:=hA0;rw [Tryz.params8] at hA hval;obtain ⟨v0,d0,rfl,rfl,h0⟩:=trodAll_one hA;obtain ⟨rfl,rfl⟩:=trodVars_none hV;have hk0:=h0;obtain ⟨x0,hX0⟩:=FY.ayK h0 (okWide_slice Tryz.underlying22 (hval 0 22 v0 rfl rfl));have hlt0:∀ x∈p,x.block<W.heap.size:=fun x hx=>by simpa using hW'.lt x (by simp [hx])
 clear hA0 hval0;simp only [MC] at hW';refine (ayH _ x0 W hX0).mono fun e W' ⟨he,hb⟩=>?_;subst he;exact ⟨_,rfl,aww hW' rfl hb (fun _ _ _=>trodAll_mk1 (shut_bool Tryz.underlying4 _))
  (fun sp hsp=>by
   have h:=trodAll_mk1 (awv (sp:=sp) agu Gl (of_decide_eq_true Gl) hk0 hb (fun x hx=>hlt0 x hx) (fun x hx=>hsp x (by simp [hx])));exact h)
  rfl (ok_one Gl rfl (okWide_bool_mk Tryz.underlying4 _))⟩
theorem ayM:(Rows.intakeBuildsRow.inPlace == Tryz.pinned.checked.prog.inPlace 8)=true:=by kernel_rfl
theorem ayN:(Rows.intakeBuildsRow.unfollowed == Tryz.pinned.checked.prog.unfollowed 8)=true:=by kernel_rfl
theorem ayO:(Rows.intakeBuildsRow.recurses == Tryz.pinned.checked.prog.recurses 8)=true:=by kernel_rfl
theorem ayP:(Rows.intakeBuildsRow.named == Tryz.pinned.checked.prog.varsNamed 8)=true:=by kernel_rfl
theorem ayQ:joinedFacts Tryz.pinned.checked.prog 8 Tryz.f8 Rows.intakeBuildsSpec Rows.intakeBuildsRow=true:=by
 unfold joinedFacts;rw [ayM,ayN,ayO,ayP]
 kernel_rfl
theorem intakeBuilds_holds:Rows.IntakeBuildsSaid :=
 OpenClaim.holds_of_wide 8 Tryz.f8 rfl rfl rfl rfl rfl rfl rfl ⟨rfl,rfl,rfl,rfl,rfl⟩ rfl rfl rfl rfl rfl Gl Tryz.func8 ayQ
  (of_decide_eq_true Gl) (by unfold Func.isWrapper;first | (rw [AZ (by decide +kernel)];kernel_rfl) | (rw [AX (by decide +kernel)];exact ⟨rfl,rfl⟩))
  (fun os started H enc _=>ayL os started H enc)
#print axioms intakeBuilds_holds
