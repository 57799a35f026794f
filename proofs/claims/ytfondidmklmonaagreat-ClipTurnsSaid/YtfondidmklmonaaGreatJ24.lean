/- A pair of small numbers, [2]uint8, that comes in as an argument: opened. The last step of a law's row: behind a call that leaves all old memory alone (Below) the arguments read as they did. -/
import Derived.OpenShut
import Derived.Test.YtfondidmklmonaaGreatJ11
import Derived.ProofKit
import Derived.Test.YtfondidmklmonaaGreatProg
import Derived.Test.YtfondidmklmonaaGreatChecked
set_option linter.unusedSimpArgs false
set_option linter.unusedVariables false
namespace Go.Proofs.YtfondidmklmonaaGreat
open Go.RowKit Go.ChangeShapes Go.WideShapes Go.Deep Go.Joins
section
variable {H : Type} {enc : TypeId × Value → H} {w : World} {base : Nat} {spare : Nat → Bool} {held : Bool}
theorem c_u8 : Tryz.prog.cellsOf 5 = 1 := by kernel_rfl
theorem c_u2 : Tryz.prog.cellsOf 66 = 2 := by kernel_rfl
set_option maxRecDepth 100000 in
theorem u2_of_trod {r : Reach} {b0 : Nat} {v : Value} {d : DataW H} {ps : List MemPlace} (hv : Value.okWide Tryz.prog w r b0 66 v) (h : DataW.Trod enc Tryz.prog w base spare held 66 v d ps) : ∃ a b : Int, v = .agg #[.int .u8 a, .int .u8 b] ∧ (Lit.int .u8 a).wf = true ∧ (Lit.int .u8 b).wf = true ∧ ps = [] := by
 have hcs : ∃ cs : Array Value, v = .agg cs := by
  simp only [Value.okWide, Tryz.underlying66] at hv
  obtain ⟨cs, h1, -⟩ := hv
  exact ⟨cs, h1⟩
 obtain ⟨cs, rfl⟩ := hcs
 obtain ⟨fuel, hf⟩ := h
 have hf2 : DataW.trod enc Tryz.prog w base spare held fuel 66 cs.toList = some (d, ps) := by simpa [Value.cells] using hf
 obtain ⟨xs, m, -, hx, hl, hn, hi⟩ := DataW.trod_array Tryz.underlying66 hf2
 rw [c_u2] at hl
 obtain ⟨cs⟩ := cs
 obtain ⟨c0, c1, rfl⟩ := lst2 hl
 have h0 := hi 0 (by omega)
 have h1 := hi 1 (by omega)
 rw [c_u8] at h0 h1
 match xs, hn with
 | [y0, y1], _ =>
  simp only [List.drop_zero, List.drop_succ_cons, List.take_succ_cons, List.take_zero, Nat.zero_mul, Nat.one_mul, List.getElem?_cons_zero, List.getElem?_cons_succ] at h0 h1
  obtain ⟨a0, e0, x0, k0⟩ := DataW.trod_int Tryz.underlying5 h0
  obtain ⟨a1, e1, x1, k1⟩ := DataW.trod_int Tryz.underlying5 h1
  simp only [List.cons.injEq, and_true] at e0 e1
  subst e0 e1 x0 x1
  refine ⟨a0, a1, rfl, k0, k1, ?_⟩
  have := congrArg (·.2) hx
  simpa using this
end
end Go.Proofs.YtfondidmklmonaaGreat
namespace Go.Proofs.YtfondidmklmonaaGreat
open Go.ChangeShapes Go.WideShapes Go.RowKit

theorem own_knob : ownKnob Tryz.prog.godebug = none := by kernel_rfl
theorem laid_out : laidOutB Tryz.prog = true := by kernel_rfl

section
variable {H : Type} {enc : TypeId × Value → H} {P : Program}
/-- An argument by value is read again: for whatever test on spares that lets its own blocks. -/
theorem arg_again {t : TypeId} (hl : laidOutB P = true) (hr : P.readableRec t = true) (hrow : t < P.types.size) {W W' : World} {v : Value} {d : DataW H} {ps : List MemPlace} {sp : Nat → Bool}
  (h : DataW.Trod enc P W 0 (fun _ => true) true t v d ps) (hb : Below W.heap.size W W') (hlt : ∀ x ∈ ps, x.block < W.heap.size) (hs : ∀ x ∈ ps, sp x.block = true) : DataW.Trod enc P W' 0 sp true t v d ps :=
 WideElems.Trod_stays hl hr hrow h (fun x hx => hb.same (hlt x hx)) hs

/-- The post of a law that gives one bool, where the world behind is 'Below'. -/
theorem law_post {f : Func} {s : ChangeSpec} {W W' : World} {args : Array Value} {v : Value} {ds gs : List (DataW H)} {before : List MemPlace}
  (hW : DataW.Whole enc P f.params.toList s.vars false W args.toList ds gs before) (hv : s.vars = []) (hb : Below W.heap.size W W')
  (hres : ∀ (b : Nat) (sp : Nat → Bool) (hd : Bool), DataW.TrodAll enc P W' b sp hd f.resultTypes.toList (v.resultList f.resultTypes.size) (s.fn H (ds ++ gs)).results [])
  (hargs : ∀ sp : Nat → Bool, (∀ p ∈ before, sp p.block = true) → DataW.TrodAll enc P W' 0 sp true f.params.toList args.toList (s.fn H (ds ++ gs)).args before)
  (hvars : (s.fn H (ds ++ gs)).vars = [])
  (hok : ∀ (j : Nat) (t : TypeId) (r : Value), f.resultTypes[j]? = some t → (v.resultList f.resultTypes.size)[j]? = some r → Value.okWide P W' .any 0 t r) :
  s.post enc P f false true false false W args v W' := by
 have hlow : ∀ p ∈ before, p.block < W.heap.size := fun p hp => hW.lt p hp
 have hno : ∀ sp : Nat → Bool, DataW.TrodVars enc P W' sp s.vars (s.fn H (ds ++ gs)).vars [] := fun sp => by rw [hv, hvars]; rfl
 have htest : ∀ p ∈ before, (fun b => decide (b < W.heap.size)) p.block = true := fun p hp => decide_eq_true (hlow p hp)
 refine ⟨ds, gs, before, [], before, [], hW, hres _ _ _, hargs _ htest, hno _, ?_, fun hc => by cases hc⟩
 exact World.keptBut_mono (fun p hp => ⟨hp, Or.inr (Or.inl hp)⟩) (hb.frame (· ∈ before))
end
end Go.Proofs.YtfondidmklmonaaGreat
