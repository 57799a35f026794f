import Derived.Test.YtngoejdlompfoaaGreatLawRm
import Derived.Test.YtngoejdlompfoaaGreatJ29
import Derived.Test.YtngoejdlompfoaaGreatRows
set_option linter.unusedSimpArgs false
set_option linter.unusedVariables false
namespace Go.Proofs.YtngoejdlompfoaaGreat
open Go.ChangeShapes Go.WideShapes Go.ChangeAt Go.RowKit Go.Joins Go.Proofs.Tryz
set_option maxRecDepth 100000 in theorem ame(os:Os)(started:os.Started)(H:Type)(enc:TypeId×Value->H):ReturnsInHanded {} Tryz.checked os 11 .any (Rows.regionMiddlesSpec.pre6 enc prog Tryz.f11 Rows.regionMiddlesRow.domain false)<|Rows.regionMiddlesSpec.post enc prog Tryz.f11 false true false false:=by
 refine returnsInHanded_of_change_sized (C:=Tryz.checked) amZ started IK func11
  (ChangeSpec.witness6 (enc:=enc) (C:=Tryz.checked) false ⟨#[],#[.agg #[.slice none 0 0,.slice none 0 0,.slice none 0 0],.int .i64 0],[]⟩ 8 IK IK IK IK) ?_;intro W base args ds gs before hval0 hW hcnd hsz _;have hval:∀(j:Nat)t v,Tryz.f11.params[j]?=some t->args[j]?=some v->Value.okWide prog W .any base t v:=hval0;have hW':=hW;obtain⟨p,q,hA0,hV,rfl,hfz,hnd⟩:=hW;have hA:DataW.TrodAll enc prog W 0 (λ_=>true) true Tryz.f11.params.toList args.toList ds p:=hA0;rw[Tryz.params11]at hA hval hsz;obtain⟨v0,v1,d0,d1,p0,p1,rfl,rfl,rfl,h0,h1⟩:=trodAll_two hA;obtain⟨rfl,rfl⟩:=trodVars_none hV;have hk0:=h0;obtain⟨x0,hX0,azU,amf⟩:=Cj.amY (hval 0 26 v0 rfl rfl) h0 (λn hn=>by have:=KO.1 hsz n<|DataW.weights_mem_each (j:=0) (t:=26) (d:=d0) rfl rfl n hn;simpa using this);have hlt0:∀x∈p0,x.block<W.heap.size:=λx hx=>by simpa using hW'.lt x<|by simp[hx]
 obtain⟨x1,rfl,rfl,rfl,w1⟩:=open_int Tryz.underlying3 (hval 1 3 v1 rfl rfl) h1;clear hA0 hval0;simp only[I9]at hW';refine(amT _ x0 x1 W hX0 amf).mono λe W'⟨he,hb⟩=>?_;subst he;exact⟨_,rfl,amc hW' rfl hb (λ_ _ _=>trodAll_mk1<|shut_bool Tryz.underlying4 _)
  λsp hsp=>by
   have h:=trodAll_mk2 (amb (sp:=sp) ama IK (of_decide_eq_true IK) hk0 hb (λx hx=>hlt0 x hx)<|λx hx=>hsp x<|by simp[hx])<|shut_int (enc:=enc) (w:=W') (base:=0) (spare:=sp) (held:=true) Tryz.underlying3 w1;try simp only[I9]at h
   exact h
  rfl<|ok_one IK rfl<|okWide_bool_mk Tryz.underlying4 _⟩
theorem amg:(Rows.regionMiddlesRow.inPlace==Tryz.pinned.checked.prog.inPlace 11)=true:=by kernel_rfl
theorem amh:(Rows.regionMiddlesRow.unfollowed==Tryz.pinned.checked.prog.unfollowed 11)=true:=by kernel_rfl
theorem ami:(Rows.regionMiddlesRow.recurses==Tryz.pinned.checked.prog.recurses 11)=true:=by kernel_rfl
theorem amj:(Rows.regionMiddlesRow.named==Tryz.pinned.checked.prog.varsNamed 11)=true:=by kernel_rfl
theorem amk:joinedFacts Tryz.pinned.checked.prog 11 Tryz.f11 Rows.regionMiddlesSpec Rows.regionMiddlesRow=true:=by unfold joinedFacts;rw[amg,amh,ami,amj];kernel_rfl
theorem regionMiddles_holds:Rows.RegionMiddlesSaid:=OpenClaim.holds_of_wide 11 Tryz.f11 rfl rfl rfl rfl rfl rfl rfl ⟨rfl,rfl,rfl,rfl,rfl⟩ rfl rfl rfl rfl rfl IK func11 amk
  (of_decide_eq_true IK) (by unfold Func.isWrapper;first|(rw[AZ<|by decide+kernel];kernel_rfl)|(rw[AX<|by decide+kernel];exact⟨rfl,rfl⟩))
  λj c H enc _=>ame j c H enc
#print axioms regionMiddles_holds
