import Derived.Test.YtpempeioeiaijaaGreatLawIr
import Derived.Test.YtpempeioeiaijaaGreatJ19
import Derived.Test.YtpempeioeiaijaaGreatOpenSz
import Derived.Test.YtpempeioeiaijaaGreatJ25
import Derived.Test.YtpempeioeiaijaaGreatRows
set_option linter.unusedSimpArgs false
set_option linter.unusedVariables false
namespace Go.Proofs.YtpempeioeiaijaaGreat
open Go.ChangeShapes Go.WideShapes Go.ChangeAt Go.RowKit Go.Joins

set_option maxRecDepth 100000 in
theorem intakeRebuilds_lifted (os:Os) (started:os.Started) (H:Type) (enc:TypeId×Value→H) :
  ReturnsInHanded {} Tryz.checked os 9 .any (Rows.intakeRebuildsSpec.pre6 enc Tryz.prog Tryz.f9 Rows.intakeRebuildsRow.domain false) (Rows.intakeRebuildsSpec.post enc Tryz.prog Tryz.f9 false true false false):=by
 refine returnsInHanded_of_change_sized (C:=Tryz.checked) own_knob started (by kernel_rfl) Tryz.func9
  (ChangeSpec.witness6 (enc:=enc) (C:=Tryz.checked) false ⟨#[],#[.agg #[.slice none 0 0,.slice none 0 0,.slice none 0 0]],[]⟩ 8 (by kernel_rfl) (by kernel_rfl) (by kernel_rfl) (by kernel_rfl)) ?_
 intro W base args ds gs before hval0 hW hcnd hsz _
 have hval:∀ (j:Nat) t v,Tryz.f9.params[j]? = some t→args[j]? = some v→Value.okWide Tryz.prog W .any base t v:=hval0
 have hW':=hW
 obtain ⟨p,q,hA0,hV,rfl,hfz,hnd⟩:=hW
 have hA:DataW.TrodAll enc Tryz.prog W 0 (fun _=>true) true Tryz.f9.params.toList args.toList ds p:=hA0
 rw [Tryz.params9] at hA hval hsz
 obtain ⟨v0,d0,rfl,rfl,h0⟩:=trodAll_one hA
 obtain ⟨rfl,rfl⟩:=trodVars_none hV
 have hk0:=h0
 obtain ⟨x0,hX0,hwf0,hsh0⟩:=PlV.of_trod_sz (hval 0 34 v0 rfl rfl) h0 (fun n hn=>by
  have:=List.all_eq_true.1 hsz n (DataW.weights_mem_each (j:=0) (t:=34) (d:=d0) rfl rfl n hn)
  simpa using this)
 have hlt0:∀ x∈p,x.block<W.heap.size:=fun x hx=>by simpa using hW'.lt x (by simp [hx])
 clear hA0 hval0
 simp only [List.append_nil] at hW'
 refine (IntakeRebuilds_spec _ x0 W hX0 hsh0).mono fun e W' ⟨he,hb⟩=>?_
 subst he
 exact ⟨_,rfl,law_post hW' rfl hb (fun _ _ _=>trodAll_mk1 (shut_bool Tryz.underlying4 _))
  (fun sp hsp=>by
   have h:=trodAll_mk1 (arg_again (sp:=sp) laid_out (by kernel_rfl) (of_decide_eq_true (by kernel_rfl)) hk0 hb (fun x hx=>hlt0 x hx) (fun x hx=>hsp x (by simp [hx])))
   exact h)
  rfl (ok_one (by kernel_rfl) rfl (okWide_bool_mk Tryz.underlying4 _))⟩

theorem intakeRebuilds_inPlace:(Rows.intakeRebuildsRow.inPlace == Tryz.pinned.checked.prog.inPlace 9)=true:=by kernel_rfl
theorem intakeRebuilds_unfollowed:(Rows.intakeRebuildsRow.unfollowed == Tryz.pinned.checked.prog.unfollowed 9)=true:=by kernel_rfl
theorem intakeRebuilds_recurses:(Rows.intakeRebuildsRow.recurses == Tryz.pinned.checked.prog.recurses 9)=true:=by kernel_rfl
theorem intakeRebuilds_named:(Rows.intakeRebuildsRow.named == Tryz.pinned.checked.prog.varsNamed 9)=true:=by kernel_rfl
theorem intakeRebuilds_joined:joinedFacts Tryz.pinned.checked.prog 9 Tryz.f9 Rows.intakeRebuildsSpec Rows.intakeRebuildsRow=true:=by
 unfold joinedFacts
 rw [intakeRebuilds_inPlace,intakeRebuilds_unfollowed,intakeRebuilds_recurses,intakeRebuilds_named]
 kernel_rfl

theorem intakeRebuilds_holds:Rows.IntakeRebuildsSaid :=
 OpenClaim.holds_of_wide 9 Tryz.f9 rfl rfl rfl rfl rfl rfl rfl ⟨rfl,rfl,rfl,rfl,rfl⟩ rfl rfl rfl rfl rfl (by kernel_rfl) Tryz.func9 intakeRebuilds_joined
  (of_decide_eq_true (by kernel_rfl)) (by unfold Func.isWrapper;first | (rw [if_pos (by decide +kernel)];kernel_rfl) | (rw [if_neg (by decide +kernel)];exact ⟨rfl,rfl⟩))
  (fun os started H enc _=>intakeRebuilds_lifted os started H enc)
#print axioms intakeRebuilds_holds
end Go.Proofs.YtpempeioeiaijaaGreat
