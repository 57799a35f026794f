import Derived.Test.YtialfdomhoojiaaGreatLawRf
import Derived.Test.YtialfdomhoojiaaGreatJ36
import Derived.Test.YtialfdomhoojiaaGreatOpenPt
import Derived.Test.YtialfdomhoojiaaGreatRows
set_option linter.unusedSimpArgs false
set_option linter.unusedVariables false
namespace Go.Proofs.YtialfdomhoojiaaGreat
open Go.ChangeShapes Go.WideShapes Go.ChangeAt Go.RowKit Go.Joins
set_option maxRecDepth 100000 in
theorem axc (os:Os) (started:os.Started) (H:Type) (enc:TypeId×Value->H) :
  ReturnsInHanded {} Tryz.checked os 5 .any (Rows.regionFindsSpec.pre6 enc Tryz.prog Tryz.f5 Rows.regionFindsRow.domain false) (Rows.regionFindsSpec.post enc Tryz.prog Tryz.f5 false true false false):=by
 refine returnsInHanded_of_change_sized (C:=Tryz.checked) amn started FC Tryz.func5
  (ChangeSpec.witness6 (enc:=enc) (C:=Tryz.checked) false ⟨#[],#[.agg #[.slice none 0 0,.slice none 0 0,.slice none 0 0],.agg #[.int .i64 0,.int .i64 0]],[]⟩ 8 FC FC FC FC) ?_
 intro W base args ds gs before hval0 hW hcnd hsz _;have hval:∀ (j:Nat) t v,Tryz.f5.params[j]? = some t->args[j]? = some v->Value.okWide Tryz.prog W .any base t v:=hval0;have hW':=hW;obtain ⟨p,q,hA0,hV,rfl,hfz,hnd⟩:=hW;have hA:DataW.TrodAll enc Tryz.prog W 0 (fun _=>true) true Tryz.f5.params.toList args.toList ds p:=hA0;rw [Tryz.params5] at hA hval hsz;obtain ⟨v0,v1,d0,d1,p0,p1,rfl,rfl,rfl,h0,h1⟩:=trodAll_two hA;obtain ⟨rfl,rfl⟩:=trodVars_none hV;have hk0:=h0;obtain ⟨x0,hX0,axt,afu⟩:=Cb.amm (hval 0 26 v0 rfl rfl) h0 (fun n hn=>by
  have:=JF.1 hsz n (DataW.weights_mem_each (j:=0) (t:=26) (d:=d0) rfl rfl n hn)
  simpa using this)
 have hlt0:∀ x∈p0,x.block<W.heap.size:=fun x hx=>by simpa using hW'.lt x (by simp [hx])
 have hk1:=h1;obtain ⟨x1,rfl,rfl⟩:=axb (hval 1 39 v1 rfl rfl) h1;clear hA0 hval0;simp only [IQ] at hW';refine (axa _ x0 x1 W hX0 afu).mono fun e W' ⟨he,hb⟩=>?_;subst he;exact ⟨_,rfl,amo hW' rfl hb (fun _ _ _=>trodAll_mk1 (shut_bool Tryz.underlying4 _))
  (fun sp hsp=>by
   have h:=trodAll_mk2 (aft (sp:=sp) afs FC (of_decide_eq_true FC) hk0 hb (fun x hx=>hlt0 x hx) (fun x hx=>hsp x (by simp [hx]))) (aft (sp:=sp) afs FC (of_decide_eq_true FC) hk1 hb Aw Aw)
   try simp only [IQ] at h
   exact h)
  rfl (ok_one FC rfl (okWide_bool_mk Tryz.underlying4 _))⟩
theorem ayQ:(Rows.regionFindsRow.inPlace == Tryz.pinned.checked.prog.inPlace 5)=true:=by kernel_rfl
theorem ayR:(Rows.regionFindsRow.unfollowed == Tryz.pinned.checked.prog.unfollowed 5)=true:=by kernel_rfl
theorem ayS:(Rows.regionFindsRow.recurses == Tryz.pinned.checked.prog.recurses 5)=true:=by kernel_rfl
theorem ayT:(Rows.regionFindsRow.named == Tryz.pinned.checked.prog.varsNamed 5)=true:=by kernel_rfl
theorem ayU:joinedFacts Tryz.pinned.checked.prog 5 Tryz.f5 Rows.regionFindsSpec Rows.regionFindsRow=true:=by
 unfold joinedFacts;rw [ayQ,ayR,ayS,ayT]
 kernel_rfl
theorem regionFinds_holds:Rows.RegionFindsSaid :=
 OpenClaim.holds_of_wide 5 Tryz.f5 rfl rfl rfl rfl rfl rfl rfl ⟨rfl,rfl,rfl,rfl,rfl⟩ rfl rfl rfl rfl rfl FC Tryz.func5 ayU
  (of_decide_eq_true FC) (by unfold Func.isWrapper;first | (rw [AZ (by decide +kernel)];kernel_rfl) | (rw [AX (by decide +kernel)];exact ⟨rfl,rfl⟩))
  (fun os started H enc _=>axc os started H enc)
#print axioms regionFinds_holds
