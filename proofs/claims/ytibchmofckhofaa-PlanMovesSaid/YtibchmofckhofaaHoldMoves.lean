/- mapsheetslaw14.PlanMoves: for every plan, every step and either answer of the turn the law returns true, and its arguments read behind the call as they read before. No condition. -/
import Derived.Test.YtibchmofckhofaaLawMoves
import Derived.Test.YtibchmofckhofaaOpenPl
import Derived.Test.YtibchmofckhofaaPost
import Derived.Test.YtibchmofckhofaaRows
set_option linter.unusedSimpArgs false
set_option linter.unusedVariables false
namespace Go.Proofs.Ytibchmofckhofaa
open Go.ChangeShapes Go.WideShapes Go.ChangeAt Go.RowKit Go.Joins

set_option maxRecDepth 100000 in
theorem pt_of_trod {H : Type} {enc : TypeId × Value → H} {w : World} {base : Nat} {spare : Nat → Bool} {held : Bool} {r : Reach} {b0 : Nat} {v : Value} {d : DataW H} {ps : List MemPlace}
    (hv : Value.okWide Try.prog w r b0 30 v) (h : DataW.Trod enc Try.prog w base spare held 30 v d ps) : ∃ q : Pt, v = ptV q ∧ ps = [] := by
  obtain ⟨v0, v1, y0, y1, n, rfl, -, rfl, h0, h1⟩ := open_agg2 Try.underlying30 (by kernel_rfl) c_pt hv h
  obtain ⟨a, e0, x0, -⟩ := DataW.trod_int Try.underlying3 h0
  obtain ⟨b, e1, x1, -⟩ := DataW.trod_int Try.underlying3 h1
  simp only [List.cons.injEq, and_true] at e0 e1
  subst e0 e1 x0 x1
  exact ⟨⟨a, b⟩, rfl, rfl⟩
set_option maxRecDepth 100000 in
theorem planMoves_lifted (os : Os) (started : os.Started) (H : Type) (enc : TypeId × Value → H) :
    ReturnsInHanded {} Try.checked os 7 .any (Rows.planMovesSpec.pre6 enc Try.prog Try.f7 Rows.planMovesRow.domain false) (Rows.planMovesSpec.post enc Try.prog Try.f7 false true false false) := by
  refine returnsInHanded_of_change (C := Try.checked) own_knob started (by kernel_rfl) Try.func7
    (ChangeSpec.witness6 (enc := enc) (C := Try.checked) false ⟨#[], #[.agg #[.slice none 0 0, .slice none 0 0, .slice none 0 0], .agg #[.int .i64 0, .int .i64 0], .bool false], []⟩ 8 (by kernel_rfl) (by kernel_rfl) (by kernel_rfl) (by kernel_rfl)) ?_
  intro W base args ds gs before hval0 hW hcnd _
  have hval : ∀ (j : Nat) t v, Try.f7.params[j]? = some t → args[j]? = some v → Value.okWide Try.prog W .any base t v := hval0
  have hW' := hW
  obtain ⟨p, q, hA0, hV, rfl, hfz, hnd⟩ := hW
  have hA : DataW.TrodAll enc Try.prog W 0 (fun _ => true) true Try.f7.params.toList args.toList ds p := hA0
  rw [Try.params7] at hA hval
  obtain ⟨v0, v1, v2, d0, d1, d2, p0, p1, p2, rfl, rfl, rfl, h0, h1, h2⟩ := trodAll_three hA
  obtain ⟨rfl, rfl⟩ := trodVars_none hV
  obtain ⟨pl, hP, hwf⟩ := PlV.of_trod (hval 0 26 v0 rfl rfl) h0
  have hk1 := h1
  obtain ⟨a1, rfl, rfl⟩ := pt_of_trod (hval 1 30 v1 rfl rfl) h1
  obtain ⟨a2, rfl, rfl, rfl⟩ := open_bool Try.underlying4 (hval 2 4 v2 rfl rfl) h2
  clear hA0 hval0
  have hlt : ∀ x ∈ p0, x.block < W.heap.size := fun x hx => by simpa using hW'.lt x (by simp [hx])
  simp only [List.append_nil] at hW'
  refine (PlanMoves_spec _ pl a1 a2 W hP ).mono fun e W' ⟨he, hb⟩ => ?_
  subst he
  exact ⟨_, rfl, law_post hW' rfl hb (fun _ _ _ => trodAll_mk1 (shut_bool Try.underlying4 _))
    (fun sp hsp => by
      have h := trodAll_mk3 (arg_again (sp := sp) laid_out (by kernel_rfl) (of_decide_eq_true (by kernel_rfl)) h0 hb hlt (fun x hx => hsp x (by simp [hx]))) (arg_again (sp := sp) laid_out (by kernel_rfl) (of_decide_eq_true (by kernel_rfl)) hk1 hb (by simp) (by simp)) (shut_bool (enc := enc) (w := W') (base := 0) (spare := sp) (held := true) Try.underlying4 a2)
      simp only [List.append_nil] at h
      exact h)
    rfl (ok_one (by kernel_rfl) rfl (okWide_bool_mk Try.underlying4 _))⟩

theorem planMoves_holds : Rows.PlanMovesSaid :=
  OpenClaim.holds_of_wide 7 Try.f7 rfl rfl rfl rfl rfl rfl rfl ⟨rfl, rfl, rfl, rfl, rfl⟩ rfl rfl rfl rfl rfl (by kernel_rfl) Try.func7 (by kernel_rfl)
    (of_decide_eq_true (by kernel_rfl)) (by unfold Func.isWrapper; rw [if_neg (of_decide_eq_false (by kernel_rfl))]; exact ⟨rfl, rfl⟩)
    (fun os started H enc _ => planMoves_lifted os started H enc)
#print axioms planMoves_holds
end Go.Proofs.Ytibchmofckhofaa
