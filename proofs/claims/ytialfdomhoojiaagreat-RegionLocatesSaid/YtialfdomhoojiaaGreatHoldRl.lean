import Derived.Test.YtialfdomhoojiaaGreatLawRl
import Derived.Test.YtialfdomhoojiaaGreatJ25
import Derived.Test.YtialfdomhoojiaaGreatJ36
import Derived.Test.YtialfdomhoojiaaGreatRows
set_option linter.unusedSimpArgs false
set_option linter.unusedVariables false
namespace Go.Proofs.YtialfdomhoojiaaGreat
open Go.ChangeShapes Go.WideShapes Go.ChangeAt Go.RowKit Go.Joins
set_option maxRecDepth 100000 in
theorem atL (os:Os) (started:os.Started) (H:Type) (enc:TypeId×Value->H) :
  ReturnsInHanded {} Tryz.checked os 6 .any (Rows.regionLocatesSpec.pre6 enc Tryz.prog Tryz.f6 Rows.regionLocatesRow.domain false) (Rows.regionLocatesSpec.post enc Tryz.prog Tryz.f6 false true false false):=by
 refine returnsInHanded_of_change_sized (C:=Tryz.checked) ajo started (by kernel_rfl) Tryz.func6
  (ChangeSpec.witness6 (enc:=enc) (C:=Tryz.checked) false ⟨#[],#[.agg #[.slice none 0 0,.slice none 0 0,.slice none 0 0],.agg #[.int .i64 0,.int .i64 0]],[]⟩ 8 (by kernel_rfl) (by kernel_rfl) (by kernel_rfl) (by kernel_rfl)) ?_
 intro W base args ds gs before hval0 hW hcnd hsz _;have hval:∀ (j:Nat) t v,Tryz.f6.params[j]? = some t->args[j]? = some v->Value.okWide Tryz.prog W .any base t v:=hval0;have hW':=hW;obtain ⟨p,q,hA0,hV,rfl,hfz,hnd⟩:=hW;have hA:DataW.TrodAll enc Tryz.prog W 0 (fun _=>true) true Tryz.f6.params.toList args.toList ds p:=hA0;rw [Tryz.params6] at hA hval hsz;obtain ⟨v0,v1,d0,d1,p0,p1,rfl,rfl,rfl,h0,h1⟩:=trodAll_two hA;obtain ⟨rfl,rfl⟩:=trodVars_none hV;have hk0:=h0;obtain ⟨x0,hX0,atM,acz⟩:=dS.ajm (hval 0 26 v0 rfl rfl) h0 (fun n hn=>by
  have:=List.all_eq_true.1 hsz n (DataW.weights_mem_each (j:=0) (t:=26) (d:=d0) rfl rfl n hn)
  simpa using this)
 have hlt0:∀ x∈p0,x.block<W.heap.size:=fun x hx=>by simpa using hW'.lt x (by simp [hx])
 have hk1:=h1;obtain ⟨x1,rfl,rfl⟩:=ajn (hval 1 39 v1 rfl rfl) h1;clear hA0 hval0;simp only [List.append_nil] at hW';refine (atD _ x0 x1 W hX0 acz).mono fun e W' ⟨he,hb⟩=>?_;subst he;exact ⟨_,rfl,ajp hW' rfl hb (fun _ _ _=>trodAll_mk1 (shut_bool Tryz.underlying4 _))
  (fun sp hsp=>by
   have h:=trodAll_mk2 (XJ (sp:=sp) XI (by kernel_rfl) (of_decide_eq_true (by kernel_rfl)) hk0 hb (fun x hx=>hlt0 x hx) (fun x hx=>hsp x (by simp [hx]))) (XJ (sp:=sp) XI (by kernel_rfl) (of_decide_eq_true (by kernel_rfl)) hk1 hb (by simp) (by simp))
   try simp only [List.append_nil] at h
   exact h)
  rfl (ok_one (by kernel_rfl) rfl (okWide_bool_mk Tryz.underlying4 _))⟩
theorem atN:(Rows.regionLocatesRow.inPlace == Tryz.pinned.checked.prog.inPlace 6)=true:=by kernel_rfl
theorem atO:(Rows.regionLocatesRow.unfollowed == Tryz.pinned.checked.prog.unfollowed 6)=true:=by kernel_rfl
theorem atP:(Rows.regionLocatesRow.recurses == Tryz.pinned.checked.prog.recurses 6)=true:=by kernel_rfl
theorem atQ:(Rows.regionLocatesRow.named == Tryz.pinned.checked.prog.varsNamed 6)=true:=by kernel_rfl
theorem atS:joinedFacts Tryz.pinned.checked.prog 6 Tryz.f6 Rows.regionLocatesSpec Rows.regionLocatesRow=true:=by
 unfold joinedFacts;rw [atN,atO,atP,atQ]
 kernel_rfl
theorem regionLocates_holds:Rows.RegionLocatesSaid :=
 OpenClaim.holds_of_wide 6 Tryz.f6 rfl rfl rfl rfl rfl rfl rfl ⟨rfl,rfl,rfl,rfl,rfl⟩ rfl rfl rfl rfl rfl (by kernel_rfl) Tryz.func6 atS
  (of_decide_eq_true (by kernel_rfl)) (by unfold Func.isWrapper;first | (rw [if_pos (by decide +kernel)];kernel_rfl) | (rw [if_neg (by decide +kernel)];exact ⟨rfl,rfl⟩))
  (fun os started H enc _=>atL os started H enc)
#print axioms regionLocates_holds
end Go.Proofs.YtialfdomhoojiaaGreat
