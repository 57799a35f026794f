import Derived.Test.YtialfdomhoojiaaGreatLawRs
import Derived.Test.YtialfdomhoojiaaGreatJ24
import Derived.Test.YtialfdomhoojiaaGreatJ35
import Derived.Test.YtialfdomhoojiaaGreatRows
set_option linter.unusedSimpArgs false
set_option linter.unusedVariables false
namespace Go.Proofs.YtialfdomhoojiaaGreat
open Go.ChangeShapes Go.WideShapes Go.ChangeAt Go.RowKit Go.Joins

set_option maxRecDepth 100000 in
theorem regionSides_lifted (os:Os) (started:os.Started) (H:Type) (enc:TypeId×Value→H) :
  ReturnsInHanded {} Tryz.checked os 8 .any (Rows.regionSidesSpec.pre6 enc Tryz.prog Tryz.f8 Rows.regionSidesRow.domain false) (Rows.regionSidesSpec.post enc Tryz.prog Tryz.f8 false true false false):=by
 refine returnsInHanded_of_change_sized (C:=Tryz.checked) own_knob started (by kernel_rfl) Tryz.func8
  (ChangeSpec.witness6 (enc:=enc) (C:=Tryz.checked) false ⟨#[],#[.agg #[.slice none 0 0,.slice none 0 0,.slice none 0 0],.int .u8 0,.int .u8 0,.bool false],[]⟩ 8 (by kernel_rfl) (by kernel_rfl) (by kernel_rfl) (by kernel_rfl)) ?_
 intro W base args ds gs before hval0 hW hcnd hsz _
 have hval:∀ (j:Nat) t v,Tryz.f8.params[j]? = some t→args[j]? = some v→Value.okWide Tryz.prog W .any base t v:=hval0
 have hW':=hW
 obtain ⟨p,q,hA0,hV,rfl,hfz,hnd⟩:=hW
 have hA:DataW.TrodAll enc Tryz.prog W 0 (fun _=>true) true Tryz.f8.params.toList args.toList ds p:=hA0
 rw [Tryz.params8] at hA hval hsz
 obtain ⟨v0,v1,v2,v3,d0,d1,d2,d3,p0,p1,p2,p3,rfl,rfl,rfl,h0,h1,h2,h3⟩:=trodAll_four hA
 obtain ⟨rfl,rfl⟩:=trodVars_none hV
 have hk0:=h0
 obtain ⟨x0,hX0,hwf0,hsh0⟩:=PlV.of_trod_sz (hval 0 26 v0 rfl rfl) h0 (fun n hn=>by
  have:=List.all_eq_true.1 hsz n (DataW.weights_mem_each (j:=0) (t:=26) (d:=d0) rfl rfl n hn)
  simpa using this)
 have hlt0:∀ x∈p0,x.block<W.heap.size:=fun x hx=>by simpa using hW'.lt x (by simp [hx])
 obtain ⟨x1,rfl,rfl,rfl,w1⟩:=open_int Tryz.underlying5 (hval 1 5 v1 rfl rfl) h1
 obtain ⟨x2,rfl,rfl,rfl,w2⟩:=open_int Tryz.underlying5 (hval 2 5 v2 rfl rfl) h2
 obtain ⟨x3,rfl,rfl,rfl⟩:=open_bool Tryz.underlying4 (hval 3 4 v3 rfl rfl) h3
 clear hA0 hval0
 simp only [List.append_nil] at hW'
 refine (RegionSides_spec _ x0 x1 x2 x3 W hX0 hsh0 w1 w2).mono fun e W' ⟨he,hb⟩=>?_
 subst he
 exact ⟨_,rfl,law_post hW' rfl hb (fun _ _ _=>trodAll_mk1 (shut_bool Tryz.underlying4 _))
  (fun sp hsp=>by
   have h:=trodAll_mk4 (arg_again (sp:=sp) laid_out (by kernel_rfl) (of_decide_eq_true (by kernel_rfl)) hk0 hb (fun x hx=>hlt0 x hx) (fun x hx=>hsp x (by simp [hx]))) (shut_int (enc:=enc) (w:=W') (base:=0) (spare:=sp) (held:=true) Tryz.underlying5 w1) (shut_int (enc:=enc) (w:=W') (base:=0) (spare:=sp) (held:=true) Tryz.underlying5 w2) (shut_bool (enc:=enc) (w:=W') (base:=0) (spare:=sp) (held:=true) Tryz.underlying4 x3)
   try simp only [List.append_nil] at h
   exact h)
  rfl (ok_one (by kernel_rfl) rfl (okWide_bool_mk Tryz.underlying4 _))⟩

theorem regionSides_inPlace:(Rows.regionSidesRow.inPlace == Tryz.pinned.checked.prog.inPlace 8)=true:=by kernel_rfl
theorem regionSides_unfollowed:(Rows.regionSidesRow.unfollowed == Tryz.pinned.checked.prog.unfollowed 8)=true:=by kernel_rfl
theorem regionSides_recurses:(Rows.regionSidesRow.recurses == Tryz.pinned.checked.prog.recurses 8)=true:=by kernel_rfl
theorem regionSides_named:(Rows.regionSidesRow.named == Tryz.pinned.checked.prog.varsNamed 8)=true:=by kernel_rfl
theorem regionSides_joined:joinedFacts Tryz.pinned.checked.prog 8 Tryz.f8 Rows.regionSidesSpec Rows.regionSidesRow=true:=by
 unfold joinedFacts
 rw [regionSides_inPlace,regionSides_unfollowed,regionSides_recurses,regionSides_named]
 kernel_rfl

theorem regionSides_holds:Rows.RegionSidesSaid :=
 OpenClaim.holds_of_wide 8 Tryz.f8 rfl rfl rfl rfl rfl rfl rfl ⟨rfl,rfl,rfl,rfl,rfl⟩ rfl rfl rfl rfl rfl (by kernel_rfl) Tryz.func8 regionSides_joined
  (of_decide_eq_true (by kernel_rfl)) (by unfold Func.isWrapper;first | (rw [if_pos (by decide +kernel)];kernel_rfl) | (rw [if_neg (by decide +kernel)];exact ⟨rfl,rfl⟩))
  (fun os started H enc _=>regionSides_lifted os started H enc)
#print axioms regionSides_holds
end Go.Proofs.YtialfdomhoojiaaGreat
