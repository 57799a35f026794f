import Derived.Test.YtpempeioeiaijaaGreatLawIc
import Derived.Test.YtpempeioeiaijaaGreatJ20
import Derived.Test.YtpempeioeiaijaaGreatJ05
import Derived.Test.YtpempeioeiaijaaGreatJ30
import Derived.Test.YtpempeioeiaijaaGreatJ27
import Derived.Test.YtpempeioeiaijaaGreatRows
import Derived.SizedLaws
set_option linter.unusedSimpArgs false
set_option linter.unusedVariables false
namespace Go.Proofs.YtpempeioeiaijaaGreat
open Go.ChangeShapes Go.WideShapes Go.ChangeAt Go.RowKit Go.Joins

set_option maxRecDepth 100000 in
theorem intakeCuts_lifted (os:Os) (started:os.Started) (H:Type) (enc:TypeId×Value→H) :
  ReturnsInHanded {} Tryz.checked os 7 .any (Rows.intakeCutsSpec.pre6 enc Tryz.prog Tryz.f7 Rows.intakeCutsRow.domain false) (Rows.intakeCutsSpec.post enc Tryz.prog Tryz.f7 false true false false):=by
 refine returnsInHanded_of_change (C:=Tryz.checked) own_knob started (by kernel_rfl) Tryz.func7
  (ChangeSpec.witness6 (enc:=enc) (C:=Tryz.checked) false ⟨#[],#[.slice none 0 0,.int .u8 0,.int .u8 0],[]⟩ 8 (by kernel_rfl) (by kernel_rfl) (by kernel_rfl) (by kernel_rfl)) ?_
 intro W base args ds gs before hval0 hW hcnd _
 have hval:∀ (j:Nat) t v,Tryz.f7.params[j]? = some t→args[j]? = some v→Value.okWide Tryz.prog W .any base t v:=hval0
 have hW':=hW
 obtain ⟨p,q,hA0,hV,rfl,hfz,hnd⟩:=hW
 have hA:DataW.TrodAll enc Tryz.prog W 0 (fun _=>true) true Tryz.f7.params.toList args.toList ds p:=hA0
 rw [Tryz.params7] at hA hval
 obtain ⟨v0,v1,v2,d0,d1,d2,p0,p1,p2,rfl,rfl,rfl,h0,h1,h2⟩:=trodAll_three hA
 obtain ⟨rfl,rfl⟩:=trodVars_none hV
 have hk0:=h0
 obtain ⟨x0,hX0⟩:=Lns19.of_trod h0 (okWide_slice Tryz.underlying22 (hval 0 22 v0 rfl rfl))
 have hlt0:∀ x∈p0,x.block<W.heap.size:=fun x hx=>by simpa using hW'.lt x (by simp [hx])
 obtain ⟨x1,rfl,rfl,rfl,w1⟩:=open_int Tryz.underlying5 (hval 1 5 v1 rfl rfl) h1
 obtain ⟨x2,rfl,rfl,rfl,w2⟩:=open_int Tryz.underlying5 (hval 2 5 v2 rfl rfl) h2
 clear hA0 hval0
 simp only [List.append_nil] at hW'
 refine (IntakeCuts_spec _ x0 x1 x2 W hX0 w1 w2).mono fun e W' ⟨he,hb⟩=>?_
 subst he
 exact ⟨_,rfl,law_post hW' rfl hb (fun _ _ _=>trodAll_mk1 (shut_bool Tryz.underlying4 _))
  (fun sp hsp=>by
   have h:=trodAll_mk3 (arg_again (sp:=sp) laid_out (by kernel_rfl) (of_decide_eq_true (by kernel_rfl)) hk0 hb (fun x hx=>hlt0 x hx) (fun x hx=>hsp x (by simp [hx]))) (shut_int (enc:=enc) (w:=W') (base:=0) (spare:=sp) (held:=true) Tryz.underlying5 w1) (shut_int (enc:=enc) (w:=W') (base:=0) (spare:=sp) (held:=true) Tryz.underlying5 w2)
   try simp only [List.append_nil] at h
   exact h)
  rfl (ok_one (by kernel_rfl) rfl (okWide_bool_mk Tryz.underlying4 _))⟩

theorem intakeCuts_inPlace:(Rows.intakeCutsRow.inPlace == Tryz.pinned.checked.prog.inPlace 7)=true:=by kernel_rfl
theorem intakeCuts_unfollowed:(Rows.intakeCutsRow.unfollowed == Tryz.pinned.checked.prog.unfollowed 7)=true:=by kernel_rfl
theorem intakeCuts_recurses:(Rows.intakeCutsRow.recurses == Tryz.pinned.checked.prog.recurses 7)=true:=by kernel_rfl
theorem intakeCuts_named:(Rows.intakeCutsRow.named == Tryz.pinned.checked.prog.varsNamed 7)=true:=by kernel_rfl
theorem intakeCuts_joined:joinedFacts Tryz.pinned.checked.prog 7 Tryz.f7 Rows.intakeCutsSpec Rows.intakeCutsRow=true:=by
 unfold joinedFacts
 rw [intakeCuts_inPlace,intakeCuts_unfollowed,intakeCuts_recurses,intakeCuts_named]
 kernel_rfl

theorem intakeCuts_holds:Rows.IntakeCutsSaid :=
 OpenClaim.holds_of_wide 7 Tryz.f7 rfl rfl rfl rfl rfl rfl rfl ⟨rfl,rfl,rfl,rfl,rfl⟩ rfl rfl rfl rfl rfl (by kernel_rfl) Tryz.func7 intakeCuts_joined
  (of_decide_eq_true (by kernel_rfl)) (by unfold Func.isWrapper;first | (rw [if_pos (by decide +kernel)];kernel_rfl) | (rw [if_neg (by decide +kernel)];exact ⟨rfl,rfl⟩))
  (fun os started H enc _=>intakeCuts_lifted os started H enc)
#print axioms intakeCuts_holds
end Go.Proofs.YtpempeioeiaijaaGreat
