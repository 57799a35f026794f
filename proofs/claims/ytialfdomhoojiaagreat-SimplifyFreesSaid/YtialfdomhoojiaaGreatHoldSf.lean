import Derived.Test.YtialfdomhoojiaaGreatLawSg
import Derived.Test.YtialfdomhoojiaaGreatJ23
import Derived.Test.YtialfdomhoojiaaGreatJ30
import Derived.Test.YtialfdomhoojiaaGreatRows
set_option linter.unusedSimpArgs false
set_option linter.unusedVariables false
namespace Go.Proofs.YtialfdomhoojiaaGreat
open Go.ChangeShapes Go.WideShapes Go.ChangeAt Go.RowKit Go.Joins
set_option maxRecDepth 100000 in
theorem ajf (os:Os) (started:os.Started) (H:Type) (enc:TypeId×Value->H) :
  ReturnsInHanded {} Tryz.checked os 11 .any (Rows.simplifyFreesSpec.pre6 enc Tryz.prog Tryz.f11 Rows.simplifyFreesRow.domain false) (Rows.simplifyFreesSpec.post enc Tryz.prog Tryz.f11 false true false false):=by
 refine returnsInHanded_of_change (C:=Tryz.checked) aja started (by kernel_rfl) Tryz.func11
  (ChangeSpec.witness6 (enc:=enc) (C:=Tryz.checked) false ⟨#[],#[.agg #[.slice none 0 0,.slice none 0 0,.slice none 0 0],.int .i64 0,.int .i64 0],[]⟩ 8 (by kernel_rfl) (by kernel_rfl) (by kernel_rfl) (by kernel_rfl)) ?_
 intro W base args ds gs before hval0 hW hcnd _;have hval:∀ (j:Nat) t v,Tryz.f11.params[j]? = some t->args[j]? = some v->Value.okWide Tryz.prog W .any base t v:=hval0;have hW':=hW;obtain ⟨p,q,hA0,hV,rfl,hfz,hnd⟩:=hW;have hA:DataW.TrodAll enc Tryz.prog W 0 (fun _=>true) true Tryz.f11.params.toList args.toList ds p:=hA0;rw [Tryz.params11] at hA hval;obtain ⟨v0,v1,v2,d0,d1,d2,p0,p1,p2,rfl,rfl,rfl,h0,h1,h2⟩:=trodAll_three hA;obtain ⟨rfl,rfl⟩:=trodVars_none hV;have hk0:=h0;obtain ⟨x0,hX0,akb⟩:=dh.SG (hval 0 26 v0 rfl rfl) h0;have hlt0:∀ x∈p0,x.block<W.heap.size:=fun x hx=>by simpa using hW'.lt x (by simp [hx])
 obtain ⟨x1,rfl,rfl,rfl,w1⟩:=open_int Tryz.underlying3 (hval 1 3 v1 rfl rfl) h1;obtain ⟨x2,rfl,rfl,rfl,w2⟩:=open_int Tryz.underlying3 (hval 2 3 v2 rfl rfl) h2;clear hA0 hval0;simp only [List.append_nil] at hW';refine (ai9 _ x0 x1 x2 W hX0).mono fun e W' ⟨he,hb⟩=>?_;subst he;exact ⟨_,rfl,ajd hW' rfl hb (fun _ _ _=>trodAll_mk1 (shut_bool Tryz.underlying4 _))
  (fun sp hsp=>by
   have h:=trodAll_mk3 (ajc (sp:=sp) ajb (by kernel_rfl) (of_decide_eq_true (by kernel_rfl)) hk0 hb (fun x hx=>hlt0 x hx) (fun x hx=>hsp x (by simp [hx]))) (shut_int (enc:=enc) (w:=W') (base:=0) (spare:=sp) (held:=true) Tryz.underlying3 w1) (shut_int (enc:=enc) (w:=W') (base:=0) (spare:=sp) (held:=true) Tryz.underlying3 w2)
   try simp only [List.append_nil] at h
   exact h)
  rfl (ok_one (by kernel_rfl) rfl (okWide_bool_mk Tryz.underlying4 _))⟩
theorem ajg:(Rows.simplifyFreesRow.inPlace == Tryz.pinned.checked.prog.inPlace 11)=true:=by kernel_rfl
theorem ajh:(Rows.simplifyFreesRow.unfollowed == Tryz.pinned.checked.prog.unfollowed 11)=true:=by kernel_rfl
theorem aji:(Rows.simplifyFreesRow.recurses == Tryz.pinned.checked.prog.recurses 11)=true:=by kernel_rfl
theorem ajj:(Rows.simplifyFreesRow.named == Tryz.pinned.checked.prog.varsNamed 11)=true:=by kernel_rfl
theorem ajk:joinedFacts Tryz.pinned.checked.prog 11 Tryz.f11 Rows.simplifyFreesSpec Rows.simplifyFreesRow=true:=by
 unfold joinedFacts;rw [ajg,ajh,aji,ajj]
 kernel_rfl
theorem simplifyFrees_holds:Rows.SimplifyFreesSaid :=
 OpenClaim.holds_of_wide 11 Tryz.f11 rfl rfl rfl rfl rfl rfl rfl ⟨rfl,rfl,rfl,rfl,rfl⟩ rfl rfl rfl rfl rfl (by kernel_rfl) Tryz.func11 ajk
  (of_decide_eq_true (by kernel_rfl)) (by unfold Func.isWrapper;first | (rw [if_pos (by decide +kernel)];kernel_rfl) | (rw [if_neg (by decide +kernel)];exact ⟨rfl,rfl⟩))
  (fun os started H enc _=>ajf os started H enc)
#print axioms simplifyFrees_holds
end Go.Proofs.YtialfdomhoojiaaGreat
