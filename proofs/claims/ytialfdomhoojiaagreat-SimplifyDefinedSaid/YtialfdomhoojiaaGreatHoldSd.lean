import Derived.Test.YtialfdomhoojiaaGreatLawSd
import Derived.Test.YtialfdomhoojiaaGreatJ36
import Derived.Test.YtialfdomhoojiaaGreatRows
import Derived.SizedLaws
set_option linter.unusedSimpArgs false
set_option linter.unusedVariables false
namespace Go.Proofs.YtialfdomhoojiaaGreat
open Go.ChangeShapes Go.WideShapes Go.ChangeAt Go.RowKit Go.Joins
set_option maxRecDepth 100000 in
theorem atN (os:Os) (started:os.Started) (H:Type) (enc:TypeId×Value->H) :
  ReturnsInHanded {} Tryz.checked os 13 .any (Rows.simplifyDefinedSpec.pre6 enc Tryz.prog Tryz.f13 Rows.simplifyDefinedRow.domain false) (Rows.simplifyDefinedSpec.post enc Tryz.prog Tryz.f13 false true false false):=by
 refine returnsInHanded_of_change (C:=Tryz.checked) ajl started atF Tryz.func13
  (ChangeSpec.witness6 (enc:=enc) (C:=Tryz.checked) false ⟨#[],#[.agg #[.slice none 0 0,.slice none 0 0,.slice none 0 0],.int .i64 0],[]⟩ 8 atF atF atF atF) ?_
 intro W base args ds gs before hval0 hW hcnd _;have hval:∀ (j:Nat) t v,Tryz.f13.params[j]? = some t->args[j]? = some v->Value.okWide Tryz.prog W .any base t v:=hval0;have hW':=hW;obtain ⟨p,q,hA0,hV,rfl,hfz,hnd⟩:=hW;have hA:DataW.TrodAll enc Tryz.prog W 0 (fun _=>true) true Tryz.f13.params.toList args.toList ds p:=hA0;rw [Tryz.params13] at hA hval;obtain ⟨v0,v1,d0,d1,p0,p1,rfl,rfl,rfl,h0,h1⟩:=trodAll_two hA;obtain ⟨rfl,rfl⟩:=trodVars_none hV;have hk0:=h0;obtain ⟨x0,hX0,acZ⟩:=bQ.ail (hval 0 26 v0 rfl rfl) h0;have hlt0:∀ x∈p0,x.block<W.heap.size:=fun x hx=>by simpa using hW'.lt x (by simp [hx])
 obtain ⟨x1,rfl,rfl,rfl,w1⟩:=open_int Tryz.underlying3 (hval 1 3 v1 rfl rfl) h1;clear hA0 hval0;simp only [List.append_nil] at hW';refine (atM _ x0 x1 W hX0 (fun a ha=>(acZ.2.1 a ha).1)).mono fun e W' ⟨he,hb⟩=>?_;subst he;exact ⟨_,rfl,ajo hW' rfl hb (fun _ _ _=>trodAll_mk1 (shut_bool Tryz.underlying4 _))
  (fun sp hsp=>by
   have h:=trodAll_mk2 (ajn (sp:=sp) ajm atF (of_decide_eq_true atF) hk0 hb (fun x hx=>hlt0 x hx) (fun x hx=>hsp x (by simp [hx]))) (shut_int (enc:=enc) (w:=W') (base:=0) (spare:=sp) (held:=true) Tryz.underlying3 w1)
   try simp only [List.append_nil] at h
   exact h)
  rfl (ok_one atF rfl (okWide_bool_mk Tryz.underlying4 _))⟩
theorem atO:(Rows.simplifyDefinedRow.inPlace == Tryz.pinned.checked.prog.inPlace 13)=true:=by kernel_rfl
theorem atP:(Rows.simplifyDefinedRow.unfollowed == Tryz.pinned.checked.prog.unfollowed 13)=true:=by kernel_rfl
theorem atQ:(Rows.simplifyDefinedRow.recurses == Tryz.pinned.checked.prog.recurses 13)=true:=by kernel_rfl
theorem atS:(Rows.simplifyDefinedRow.named == Tryz.pinned.checked.prog.varsNamed 13)=true:=by kernel_rfl
theorem atT:joinedFacts Tryz.pinned.checked.prog 13 Tryz.f13 Rows.simplifyDefinedSpec Rows.simplifyDefinedRow=true:=by
 unfold joinedFacts;rw [atO,atP,atQ,atS]
 kernel_rfl
theorem simplifyDefined_holds:Rows.SimplifyDefinedSaid :=
 OpenClaim.holds_of_wide 13 Tryz.f13 rfl rfl rfl rfl rfl rfl rfl ⟨rfl,rfl,rfl,rfl,rfl⟩ rfl rfl rfl rfl rfl atF Tryz.func13 atT
  (of_decide_eq_true atF) (by unfold Func.isWrapper;first | (rw [if_pos (by decide +kernel)];kernel_rfl) | (rw [if_neg (by decide +kernel)];exact ⟨rfl,rfl⟩))
  (fun os started H enc _=>atN os started H enc)
#print axioms simplifyDefined_holds
end Go.Proofs.YtialfdomhoojiaaGreat
