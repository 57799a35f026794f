import Derived.Test.YtpempeioeiaijaaGreatLawIp
import Derived.Test.YtpempeioeiaijaaGreatJ20
import Derived.Test.YtpempeioeiaijaaGreatJ05
import Derived.Test.YtpempeioeiaijaaGreatJ30
import Derived.Test.YtpempeioeiaijaaGreatJ27
import Derived.Test.YtpempeioeiaijaaGreatRows
import Derived.SizedLaws
set_option linter.unusedSimpArgs false
set_option linter.unusedVariables false
namespace Go.Proofs.YtpempeioeiaijaaGreat
open Go.ChangeShapes Go.WideShapes Go.ChangeAt Go.RowKit Go.Joins

set_option maxRecDepth 100000 in
theorem intakePoints_lifted (os:Os) (started:os.Started) (H:Type) (enc:TypeId×Value→H) :
  ReturnsInHanded {} Tryz.checked os 3 .any (Rows.intakePointsSpec.pre6 enc Tryz.prog Tryz.f3 Rows.intakePointsRow.domain false) (Rows.intakePointsSpec.post enc Tryz.prog Tryz.f3 false true false false):=by
 refine returnsInHanded_of_change (C:=Tryz.checked) own_knob started (by kernel_rfl) Tryz.func3
  (ChangeSpec.witness6 (enc:=enc) (C:=Tryz.checked) false ⟨#[],#[.slice none 0 0],[]⟩ 8 (by kernel_rfl) (by kernel_rfl) (by kernel_rfl) (by kernel_rfl)) ?_
 intro W base args ds gs before hval0 hW hcnd _
 have hval:∀ (j:Nat) t v,Tryz.f3.params[j]? = some t→args[j]? = some v→Value.okWide Tryz.prog W .any base t v:=hval0
 have hW':=hW
 obtain ⟨p,q,hA0,hV,rfl,hfz,hnd⟩:=hW
 have hA:DataW.TrodAll enc Tryz.prog W 0 (fun _=>true) true Tryz.f3.params.toList args.toList ds p:=hA0
 rw [Tryz.params3] at hA hval
 obtain ⟨v0,d0,rfl,rfl,h0⟩:=trodAll_one hA
 obtain ⟨rfl,rfl⟩:=trodVars_none hV
 have hk0:=h0
 obtain ⟨x0,hX0⟩:=Lns19.of_trod h0 (okWide_slice Tryz.underlying22 (hval 0 22 v0 rfl rfl))
 have hlt0:∀ x∈p,x.block<W.heap.size:=fun x hx=>by simpa using hW'.lt x (by simp [hx])
 clear hA0 hval0
 simp only [List.append_nil] at hW'
 refine (IntakePoints_spec _ x0 W hX0).mono fun e W' ⟨he,hb⟩=>?_
 subst he
 exact ⟨_,rfl,law_post hW' rfl hb (fun _ _ _=>trodAll_mk1 (shut_bool Tryz.underlying4 _))
  (fun sp hsp=>by
   have h:=trodAll_mk1 (arg_again (sp:=sp) laid_out (by kernel_rfl) (of_decide_eq_true (by kernel_rfl)) hk0 hb (fun x hx=>hlt0 x hx) (fun x hx=>hsp x (by simp [hx])))
   exact h)
  rfl (ok_one (by kernel_rfl) rfl (okWide_bool_mk Tryz.underlying4 _))⟩

theorem intakePoints_inPlace:(Rows.intakePointsRow.inPlace == Tryz.pinned.checked.prog.inPlace 3)=true:=by kernel_rfl
theorem intakePoints_unfollowed:(Rows.intakePointsRow.unfollowed == Tryz.pinned.checked.prog.unfollowed 3)=true:=by kernel_rfl
theorem intakePoints_recurses:(Rows.intakePointsRow.recurses == Tryz.pinned.checked.prog.recurses 3)=true:=by kernel_rfl
theorem intakePoints_named:(Rows.intakePointsRow.named == Tryz.pinned.checked.prog.varsNamed 3)=true:=by kernel_rfl
theorem intakePoints_joined:joinedFacts Tryz.pinned.checked.prog 3 Tryz.f3 Rows.intakePointsSpec Rows.intakePointsRow=true:=by
 unfold joinedFacts
 rw [intakePoints_inPlace,intakePoints_unfollowed,intakePoints_recurses,intakePoints_named]
 kernel_rfl

theorem intakePoints_holds:Rows.IntakePointsSaid :=
 OpenClaim.holds_of_wide 3 Tryz.f3 rfl rfl rfl rfl rfl rfl rfl ⟨rfl,rfl,rfl,rfl,rfl⟩ rfl rfl rfl rfl rfl (by kernel_rfl) Tryz.func3 intakePoints_joined
  (of_decide_eq_true (by kernel_rfl)) (by unfold Func.isWrapper;first | (rw [if_pos (by decide +kernel)];kernel_rfl) | (rw [if_neg (by decide +kernel)];exact ⟨rfl,rfl⟩))
  (fun os started H enc _=>intakePoints_lifted os started H enc)
#print axioms intakePoints_holds
end Go.Proofs.YtpempeioeiaijaaGreat
