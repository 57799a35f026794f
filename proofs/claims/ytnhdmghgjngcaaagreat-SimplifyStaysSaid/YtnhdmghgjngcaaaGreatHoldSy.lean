import Derived.Test.YtnhdmghgjngcaaaGreatLawSy
import Derived.Test.YtnhdmghgjngcaaaGreatJ25
import Derived.Test.YtnhdmghgjngcaaaGreatJ08
import Derived.Test.YtnhdmghgjngcaaaGreatJ40
import Derived.Test.YtnhdmghgjngcaaaGreatRows
import Derived.SizedLaws
set_option linter.unusedSimpArgs false
set_option linter.unusedVariables false
namespace Go.Proofs.YtnhdmghgjngcaaaGreat
open Go.ChangeShapes Go.WideShapes Go.ChangeAt Go.RowKit Go.Joins

set_option maxRecDepth 100000 in
theorem simplifyStays_lifted (os:Os) (started:os.Started) (H:Type) (enc:TypeId×Value→H) :
  ReturnsInHanded {} Tryz.checked os 6 .any (Rows.simplifyStaysSpec.pre6 enc Tryz.prog Tryz.f6 Rows.simplifyStaysRow.domain false) (Rows.simplifyStaysSpec.post enc Tryz.prog Tryz.f6 false true false false):=by
 refine returnsInHanded_of_change (C:=Tryz.checked) own_knob started (by kernel_rfl) Tryz.func6
  (ChangeSpec.witness6 (enc:=enc) (C:=Tryz.checked) false ⟨#[],#[.agg #[.slice none 0 0,.slice none 0 0,.slice none 0 0],.int .i64 0],[]⟩ 8 (by kernel_rfl) (by kernel_rfl) (by kernel_rfl) (by kernel_rfl)) ?_
 intro W base args ds gs before hval0 hW hcnd _
 have hval:∀ (j:Nat) t v,Tryz.f6.params[j]? = some t→args[j]? = some v→Value.okWide Tryz.prog W .any base t v:=hval0
 have hW':=hW
 obtain ⟨p,q,hA0,hV,rfl,hfz,hnd⟩:=hW
 have hA:DataW.TrodAll enc Tryz.prog W 0 (fun _=>true) true Tryz.f6.params.toList args.toList ds p:=hA0
 rw [Tryz.params6] at hA hval
 obtain ⟨v0,v1,d0,d1,p0,p1,rfl,rfl,rfl,h0,h1⟩:=trodAll_two hA
 obtain ⟨rfl,rfl⟩:=trodVars_none hV
 have hk0:=h0
 obtain ⟨x0,hX0,hwf0⟩:=PlV.of_trod (hval 0 26 v0 rfl rfl) h0
 have hlt0:∀ x∈p0,x.block<W.heap.size:=fun x hx=>by simpa using hW'.lt x (by simp [hx])
 obtain ⟨x1,rfl,rfl,rfl,w1⟩:=open_int Tryz.underlying3 (hval 1 3 v1 rfl rfl) h1
 clear hA0 hval0
 simp only [List.append_nil] at hW'
 refine (SimplifyStays_spec _ x0 x1 W hX0 (fun a ha=>(hwf0.2.1 a ha).1)).mono fun e W' ⟨he,hb⟩=>?_
 subst he
 exact ⟨_,rfl,law_post hW' rfl hb (fun _ _ _=>trodAll_mk1 (shut_bool Tryz.underlying4 _))
  (fun sp hsp=>by
   have h:=trodAll_mk2 (arg_again (sp:=sp) laid_out (by kernel_rfl) (of_decide_eq_true (by kernel_rfl)) hk0 hb (fun x hx=>hlt0 x hx) (fun x hx=>hsp x (by simp [hx]))) (shut_int (enc:=enc) (w:=W') (base:=0) (spare:=sp) (held:=true) Tryz.underlying3 w1)
   try simp only [List.append_nil] at h
   exact h)
  rfl (ok_one (by kernel_rfl) rfl (okWide_bool_mk Tryz.underlying4 _))⟩

theorem simplifyStays_inPlace:(Rows.simplifyStaysRow.inPlace == Tryz.pinned.checked.prog.inPlace 6)=true:=by kernel_rfl
theorem simplifyStays_unfollowed:(Rows.simplifyStaysRow.unfollowed == Tryz.pinned.checked.prog.unfollowed 6)=true:=by kernel_rfl
theorem simplifyStays_recurses:(Rows.simplifyStaysRow.recurses == Tryz.pinned.checked.prog.recurses 6)=true:=by kernel_rfl
theorem simplifyStays_named:(Rows.simplifyStaysRow.named == Tryz.pinned.checked.prog.varsNamed 6)=true:=by kernel_rfl
theorem simplifyStays_joined:joinedFacts Tryz.pinned.checked.prog 6 Tryz.f6 Rows.simplifyStaysSpec Rows.simplifyStaysRow=true:=by
 unfold joinedFacts
 rw [simplifyStays_inPlace,simplifyStays_unfollowed,simplifyStays_recurses,simplifyStays_named]
 kernel_rfl

theorem simplifyStays_holds:Rows.SimplifyStaysSaid :=
 OpenClaim.holds_of_wide 6 Tryz.f6 rfl rfl rfl rfl rfl rfl rfl ⟨rfl,rfl,rfl,rfl,rfl⟩ rfl rfl rfl rfl rfl (by kernel_rfl) Tryz.func6 simplifyStays_joined
  (of_decide_eq_true (by kernel_rfl)) (by unfold Func.isWrapper;first | (rw [if_pos (by decide +kernel)];kernel_rfl) | (rw [if_neg (by decide +kernel)];exact ⟨rfl,rfl⟩))
  (fun os started H enc _=>simplifyStays_lifted os started H enc)
#print axioms simplifyStays_holds
end Go.Proofs.YtnhdmghgjngcaaaGreat
