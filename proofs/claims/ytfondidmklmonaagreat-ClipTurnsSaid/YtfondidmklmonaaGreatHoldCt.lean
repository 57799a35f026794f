/- mapsheetslaw41.ClipTurns: an arc turned, its pieces are turned and the rest is as it was; the arguments read as they did. No condition. -/
import Derived.Test.YtfondidmklmonaaGreatLawCt
import Derived.Test.YtfondidmklmonaaGreatJ11
import Derived.Test.YtfondidmklmonaaGreatJ24
import Derived.Test.YtfondidmklmonaaGreatRows
set_option linter.unusedSimpArgs false
set_option linter.unusedVariables false
namespace Go.Proofs.YtfondidmklmonaaGreat
open Go.ChangeShapes Go.WideShapes Go.ChangeAt Go.RowKit Go.Joins

set_option maxRecDepth 100000 in
theorem clipTurns_lifted (os : Os) (started : os.Started) (H : Type) (enc : TypeId × Value → H) :
  ReturnsInHanded {} Tryz.checked os 9 .any (Rows.clipTurnsSpec.pre6 enc Tryz.prog Tryz.f9 Rows.clipTurnsRow.domain false) (Rows.clipTurnsSpec.post enc Tryz.prog Tryz.f9 false true false false) := by
 refine returnsInHanded_of_change (C := Tryz.checked) own_knob started (by kernel_rfl) Tryz.func9
  (ChangeSpec.witness6 (enc := enc) (C := Tryz.checked) false ⟨#[], #[.agg #[.slice none 0 0, .slice none 0 0, .slice none 0 0], .agg #[.int .i64 0, .int .i64 0, .int .i64 0, .int .i64 0, .int .i64 0, .int .i64 0], .agg #[.int .u8 0, .int .u8 0]], []⟩ 8 (by kernel_rfl) (by kernel_rfl) (by kernel_rfl) (by kernel_rfl)) ?_
 intro W base args ds gs before hval0 hW hcnd _
 have hval : ∀ (j : Nat) t v, Tryz.f9.params[j]? = some t → args[j]? = some v → Value.okWide Tryz.prog W .any base t v := hval0
 have hW' := hW
 obtain ⟨p, q, hA0, hV, rfl, hfz, hnd⟩ := hW
 have hA : DataW.TrodAll enc Tryz.prog W 0 (fun _ => true) true Tryz.f9.params.toList args.toList ds p := hA0
 rw [Tryz.params9] at hA hval
 obtain ⟨v0, v1, v2, d0, d1, d2, p0, p1, p2, rfl, rfl, rfl, h0, h1, h2⟩ := trodAll_three hA
 obtain ⟨rfl, rfl⟩ := trodVars_none hV
 have hk0 := h0
 obtain ⟨x0, hX0, hwf0⟩ := PlV.of_trod (hval 0 26 v0 rfl rfl) h0
 have hlt0 : ∀ x ∈ p0, x.block < W.heap.size := fun x hx => by simpa using hW'.lt x (by simp [hx])
 have hk1 := h1
 obtain ⟨x1, rfl, hwf1, rfl⟩ := Se.of_trod (hval 1 30 v1 rfl rfl) h1
 have hk2 := h2
 obtain ⟨x2a, x2b, rfl, w2a, w2b, rfl⟩ := u2_of_trod (hval 2 66 v2 rfl rfl) h2
 clear hA0 hval0
 simp only [List.append_nil] at hW'
 refine (ClipTurns_spec _ x0 x1 x2a x2b W hX0 w2a w2b).mono fun e W' ⟨he, hb⟩ => ?_
 subst he
 exact ⟨_, rfl, law_post hW' rfl hb (fun _ _ _ => trodAll_mk1 (shut_bool Tryz.underlying4 _))
  (fun sp hsp => by
   have h := trodAll_mk3 (arg_again (sp := sp) laid_out (by kernel_rfl) (of_decide_eq_true (by kernel_rfl)) hk0 hb (fun x hx => hlt0 x hx) (fun x hx => hsp x (by simp [hx]))) (arg_again (sp := sp) laid_out (by kernel_rfl) (of_decide_eq_true (by kernel_rfl)) hk1 hb (by simp) (by simp)) (arg_again (sp := sp) laid_out (by kernel_rfl) (of_decide_eq_true (by kernel_rfl)) hk2 hb (by simp) (by simp))
   try simp only [List.append_nil] at h
   exact h)
  rfl (ok_one (by kernel_rfl) rfl (okWide_bool_mk Tryz.underlying4 _))⟩

theorem clipTurns_holds : Rows.ClipTurnsSaid :=
 OpenClaim.holds_of_wide 9 Tryz.f9 rfl rfl rfl rfl rfl rfl rfl ⟨rfl, rfl, rfl, rfl, rfl⟩ rfl rfl rfl rfl rfl (by kernel_rfl) Tryz.func9 (by kernel_rfl)
  (of_decide_eq_true (by kernel_rfl)) (by unfold Func.isWrapper; first | (rw [if_pos (by decide +kernel)]; kernel_rfl) | (rw [if_neg (by decide +kernel)]; exact ⟨rfl, rfl⟩))
  (fun os started H enc _ => clipTurns_lifted os started H enc)
#print axioms clipTurns_holds
end Go.Proofs.YtfondidmklmonaaGreat
