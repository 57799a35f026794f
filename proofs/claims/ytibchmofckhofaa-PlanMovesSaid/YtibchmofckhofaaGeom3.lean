/- Package geom, on: before, shared, Meet. -/
import Derived.Test.YtibchmofckhofaaGeom2
import Derived.Test.YtibchmofckhofaaGB
import Derived.RegionTactic
import Derived.Deep.DeepCutAuto
set_option linter.unusedSimpArgs false
set_option linter.unusedVariables false
namespace Go.Proofs.Ytibchmofckhofaa
open Go.RowKit


set_option maxHeartbeats 400000 in
theorem before_spec (a b : Pt) (w : World) :
    Calls Try.prog 109 #[ptV a, ptV b] w fun e w' => e = .returned (.bool (bef a b)) ∧ Below w.heap.size w w' := by
  unfold ptV
  by_cases h1 : a.x < b.x
  · go_enter Try.func109, Try.ntmps109
    go_wp2
    go_ret
    refine ⟨ret_bool (by simp [bef, h1]), ?_⟩
    repeat (first | with_reducible exact bR _ | with_reducible assumption | with_reducible refine bA ?_ _ | with_reducible refine bD ?_ | with_reducible refine bN ?_ _ | ((with_reducible refine bS ?_ ?_ _); rotate_left; (simp; try omega)) | ((with_reducible refine bT ?_ ?_); rotate_left; with_reducible assumption) | with_reducible refine bT ?_ (by assumption))
  · by_cases h2 : (a.x == b.x) = true
    · go_enter Try.func109, Try.ntmps109
      go_wp2
      go_ret
      refine ⟨ret_bool (by simp only [bef]; simp_all), ?_⟩
      repeat (first | with_reducible exact bR _ | with_reducible assumption | with_reducible refine bA ?_ _ | with_reducible refine bD ?_ | with_reducible refine bN ?_ _ | ((with_reducible refine bS ?_ ?_ _); rotate_left; (simp; try omega)) | ((with_reducible refine bT ?_ ?_); rotate_left; with_reducible assumption) | with_reducible refine bT ?_ (by assumption))
    · have h2' : (a.x == b.x) = false := by simpa using h2
      clear h2
      go_enter Try.func109, Try.ntmps109
      go_wp2
      go_ret
      refine ⟨ret_bool (by simp only [bef]; simp_all), ?_⟩
      repeat (first | with_reducible exact bR _ | with_reducible assumption | with_reducible refine bA ?_ _ | with_reducible refine bD ?_ | with_reducible refine bN ?_ _ | ((with_reducible refine bS ?_ ?_ _); rotate_left; (simp; try omega)) | ((with_reducible refine bT ?_ ?_); rotate_left; with_reducible assumption) | with_reducible refine bT ?_ (by assumption))

def sharedS (a b c d : Pt) : Int :=
  let a' := if bef b a then b else a
  let b' := if bef b a then a else b
  let c' := if bef d c then d else c
  let d' := if bef d c then c else d
  let f := if bef a' c' then c' else a'
  let l := if bef d' b' then d' else b'
  if f = l then 1 else if bef f l then 2 else 0

set_option maxHeartbeats 1000000 in
theorem shared_spec (a b c d : Pt) (w : World) :
    Calls Try.prog 98 #[ptV a, ptV b, ptV c, ptV d] w fun e w' => e = .returned (.int .i64 (sharedS a b c d)) ∧ Below w.heap.size w w' := by
  have T : ∀ p q : Pt, ∀ W, Calls Try.prog 109 #[ptV p, ptV q] W _ := fun p q W => before_spec p q W
  unfold ptV at T ⊢
  have HT := Lib.hid T; clear T
  go_enter Try.func98, Try.ntmps98
  go_wp2_with fail
  refine (HT.out b a _).mono ?_
  rintro e w1 ⟨rfl, hb1⟩
  have Bw1 : Below w.heap.size w w1 := by
    repeat (first | with_reducible exact bR _ | with_reducible assumption | with_reducible refine bA ?_ _ | with_reducible refine bD ?_ | with_reducible refine bN ?_ _ | ((with_reducible refine bS ?_ ?_ _); rotate_left; (simp; try omega)) | ((with_reducible refine bT ?_ ?_); rotate_left; with_reducible assumption) | with_reducible refine bT ?_ (by assumption))
  have X4 : Boxed w1 w.heap.size a := ((((Boxed.new _ a rfl).alloc _).alloc _).alloc _).keep hb1
  have X5 : Boxed w1 (w.heap.size + 1) b := (((Boxed.new _ b (by simp)).alloc _).alloc _).keep hb1
  have X6 : Boxed w1 (w.heap.size + 1 + 1) c := ((Boxed.new _ c (by simp)).alloc _).keep hb1
  have X7 : Boxed w1 (w.heap.size + 1 + 1 + 1) d := (Boxed.new _ d (by simp)).keep hb1
  clear hb1
  go_upto_if 13 with fail
  go_cut [] (fun wx => Boxed wx w.heap.size (if bef b a then b else a) ∧ Boxed wx (w.heap.size + 1) (if bef b a then a else b) ∧ Boxed wx (w.heap.size + 1 + 1) c ∧ Boxed wx (w.heap.size + 1 + 1 + 1) d ∧ Below w.heap.size w wx)
  case first =>
    obtain ⟨x4l, x40, x41, x4f, x4g⟩ := X4.facts
    obtain ⟨x5l, x50, x51, x5f, x5g⟩ := X5.facts
    cases h : bef b a
    · go_wp2_with fail
      go_meet
      case rel =>
      rw [h]
      exact ⟨X4, X5, X6, X7, Bw1⟩
    · go_wp2_with fail
      go_meet
      case rel =>
      rw [h]
      exact ⟨(X4.set_.far (by first | omega | (simp; done) | (simp; omega)) _).far (by first | omega | (simp; done) | (simp; omega)) _, (X5.far (by first | omega | (simp; done) | (simp; omega)) _ |>.far (by first | omega | (simp; done) | (simp; omega)) _).set_, (((X6.far (by first | omega | (simp; done) | (simp; omega)) _).far (by first | omega | (simp; done) | (simp; omega)) _).far (by first | omega | (simp; done) | (simp; omega)) _).far (by first | omega | (simp; done) | (simp; omega)) _, (((X7.far (by first | omega | (simp; done) | (simp; omega)) _).far (by first | omega | (simp; done) | (simp; omega)) _).far (by first | omega | (simp; done) | (simp; omega)) _).far (by first | omega | (simp; done) | (simp; omega)) _, bS (bS (bS (bS Bw1 (by first | omega | (simp; done) | (simp; omega)) _) (by first | omega | (simp; done) | (simp; omega)) _) (by first | omega | (simp; done) | (simp; omega)) _) (by first | omega | (simp; done) | (simp; omega)) _⟩
  case rest =>
    clear Bw1 X4 X5 X6 X7
    obtain ⟨X4, X5, X6, X7, Bw⟩ := hcut
    obtain ⟨a1, ha1⟩ : ∃ a1, a1 = (if bef b a then b else a) := ⟨_, rfl⟩
    obtain ⟨b1, hb1⟩ : ∃ b1, b1 = (if bef b a then a else b) := ⟨_, rfl⟩
    rw [← ha1] at X4
    rw [← hb1] at X5
    have Ha := Lib.hid ha1; clear ha1
    have Hb := Lib.hid hb1; clear hb1
    obtain ⟨x6l, x60, x61, -, -⟩ := X6.facts
    obtain ⟨x7l, x70, x71, -, -⟩ := X7.facts
    go_wp2_with fail
    refine (HT.out d c _).mono ?_
    rintro e w2 ⟨rfl, hb2⟩
    clear x6l x60 x61 x7l x70 x71
    replace Bw : Below w.heap.size w w2 := bT Bw hb2
    replace X4 := X4.keep hb2
    replace X5 := X5.keep hb2
    replace X6 := X6.keep hb2
    replace X7 := X7.keep hb2
    clear hb2
    go_upto_if 18 with fail
    go_cut [] (fun wx => Boxed wx w.heap.size a1 ∧ Boxed wx (w.heap.size + 1) b1 ∧ Boxed wx (w.heap.size + 1 + 1) (if bef d c then d else c) ∧ Boxed wx (w.heap.size + 1 + 1 + 1) (if bef d c then c else d) ∧ Below w.heap.size w wx)
    case first =>
      obtain ⟨x6l, x60, x61, x6f, x6g⟩ := X6.facts
      obtain ⟨x7l, x70, x71, x7f, x7g⟩ := X7.facts
      cases h : bef d c
      · go_wp2_with fail
        go_meet
        case rel =>
        rw [h]
        exact ⟨X4, X5, X6, X7, Bw⟩
      · go_wp2_with fail
        go_meet
        case rel =>
        rw [h]
        exact ⟨(((X4.far (by first | omega | (simp; done) | (simp; omega)) _).far (by first | omega | (simp; done) | (simp; omega)) _).far (by first | omega | (simp; done) | (simp; omega)) _).far (by first | omega | (simp; done) | (simp; omega)) _, (((X5.far (by first | omega | (simp; done) | (simp; omega)) _).far (by first | omega | (simp; done) | (simp; omega)) _).far (by first | omega | (simp; done) | (simp; omega)) _).far (by first | omega | (simp; done) | (simp; omega)) _, (X6.set_.far (by first | omega | (simp; done) | (simp; omega)) _).far (by first | omega | (simp; done) | (simp; omega)) _, (X7.far (by first | omega | (simp; done) | (simp; omega)) _ |>.far (by first | omega | (simp; done) | (simp; omega)) _).set_, bS (bS (bS (bS Bw (by first | omega | (simp; done) | (simp; omega)) _) (by first | omega | (simp; done) | (simp; omega)) _) (by first | omega | (simp; done) | (simp; omega)) _) (by first | omega | (simp; done) | (simp; omega)) _⟩
    case rest =>
      clear Bw X4 X5 X6 X7
      obtain ⟨X4, X5, X6, X7, Bw⟩ := hcut
      obtain ⟨c1, hc1⟩ : ∃ c1, c1 = (if bef d c then d else c) := ⟨_, rfl⟩
      obtain ⟨d1, hd1⟩ : ∃ d1, d1 = (if bef d c then c else d) := ⟨_, rfl⟩
      rw [← hc1] at X6
      rw [← hd1] at X7
      have Hc := Lib.hid hc1; clear hc1
      have Hd := Lib.hid hd1; clear hd1
      obtain ⟨x4l, x40, x41, x4f, x4g⟩ := X4.facts
      obtain ⟨x5l, x50, x51, x5f, x5g⟩ := X5.facts
      go_upto_region 5 with fail
      go_cut [9, 10] (fun s9 s10 wx => ∃ g9 g10 : Nat, s9 = .pointer (some ⟨g9, 0, none⟩) ∧ s10 = .pointer (some ⟨g10, 0, none⟩) ∧ Boxed wx g9 a1 ∧ Boxed wx g10 b1 ∧ g9 ≠ g10 ∧ w.heap.size + 1 + 1 + 1 < g9 ∧ w.heap.size + 1 + 1 + 1 < g10 ∧ Boxed wx (w.heap.size + 1 + 1) c1 ∧ Boxed wx (w.heap.size + 1 + 1 + 1) d1 ∧ Below w.heap.size w wx)
      case first =>
        have x7l := X7.lt
        go_region
        · go_wp2_with fail
          go_meet
          case rel => exact ⟨_, _, rfl, rfl, ((Boxed.new _ a1 rfl).alloc _).drew, (Boxed.new _ b1 (by simp)).drew, (by first | omega | (simp; done) | (simp; omega)), (by first | omega | (simp; done) | (simp; omega)), (by first | omega | (simp; done) | (simp; omega)), ((X6.alloc _).alloc _).drew, ((X7.alloc _).alloc _).drew, bD (bA (bA Bw _) _)⟩
        · go_wp2_with fail
          go_meet
          case rel => exact ⟨_, _, rfl, rfl, (Boxed.new _ a1 (by simp)).drew, ((Boxed.new _ b1 rfl).alloc _).drew, (by first | omega | (simp; done) | (simp; omega)), (by first | omega | (simp; done) | (simp; omega)), (by first | omega | (simp; done) | (simp; omega)), ((X6.alloc _).alloc _).drew, ((X7.alloc _).alloc _).drew, bD (bA (bA Bw _) _)⟩
      case rest =>
        clear Bw X4 X5 X6 X7 x4l x40 x41 x4f x4g x5l x50 x51 x5f x5g
        obtain ⟨g9, g10, rfl, rfl, X9, X10, hne, hg9, hg10, X6, X7, Bw⟩ := hcut
        obtain ⟨x9l, x90, x91, -, -⟩ := X9.facts
        obtain ⟨x6l, x60, x61, -, -⟩ := X6.facts
        go_wp2_with fail
        refine (HT.out a1 c1 _).mono ?_
        rintro e w3 ⟨rfl, hb3⟩
        replace Bw : Below w.heap.size w w3 := bT Bw hb3
        replace X9 := X9.keep hb3
        replace X10 := X10.keep hb3
        replace X6 := X6.keep hb3
        replace X7 := X7.keep hb3
        clear hb3 x9l x90 x91 x6l x60 x61
        go_upto_if 25 with fail
        go_cut [] (fun wx => Boxed wx g9 (if bef a1 c1 then c1 else a1) ∧ Boxed wx g10 b1 ∧ Boxed wx (w.heap.size + 1 + 1 + 1) d1 ∧ Below w.heap.size w wx)
        case first =>
          obtain ⟨x9l, x90, x91, x9f, x9g⟩ := X9.facts
          obtain ⟨x6l, x60, x61, x6f, x6g⟩ := X6.facts
          cases h : bef a1 c1
          · go_wp2_with fail
            go_meet
            case rel =>
            rw [h]
            exact ⟨X9, X10, X7, Bw⟩
          · go_wp2_with fail
            go_meet
            case rel =>
            rw [h]
            exact ⟨X9.set_, (X10.far (by first | omega | (simp; done) | (simp; omega)) _).far (by first | omega | (simp; done) | (simp; omega)) _, (X7.far (by first | omega | (simp; done) | (simp; omega)) _).far (by first | omega | (simp; done) | (simp; omega)) _, bS (bS Bw (by first | omega | (simp; done) | (simp; omega)) _) (by first | omega | (simp; done) | (simp; omega)) _⟩
        case rest =>
          clear Bw X9 X10 X6 X7
          obtain ⟨X9, X10, X7, Bw⟩ := hcut
          obtain ⟨f1, hf1⟩ : ∃ f1, f1 = (if bef a1 c1 then c1 else a1) := ⟨_, rfl⟩
          rw [← hf1] at X9
          have Hf := Lib.hid hf1; clear hf1
          obtain ⟨x10l, x100, x101, -, -⟩ := X10.facts
          obtain ⟨x7l, x70, x71, -, -⟩ := X7.facts
          go_wp2_with fail
          refine (HT.out d1 b1 _).mono ?_
          rintro e w4 ⟨rfl, hb4⟩
          replace Bw : Below w.heap.size w w4 := bT Bw hb4
          replace X9 := X9.keep hb4
          replace X10 := X10.keep hb4
          replace X7 := X7.keep hb4
          clear hb4 x10l x100 x101 x7l x70 x71
          go_upto_if 29 with fail
          go_cut [] (fun wx => Boxed wx g9 f1 ∧ Boxed wx g10 (if bef d1 b1 then d1 else b1) ∧ Below w.heap.size w wx)
          case first =>
            obtain ⟨x10l, x100, x101, x10f, x10g⟩ := X10.facts
            obtain ⟨x7l, x70, x71, x7f, x7g⟩ := X7.facts
            cases h : bef d1 b1
            · go_wp2_with fail
              go_meet
              case rel =>
              rw [h]
              exact ⟨X9, X10, Bw⟩
            · go_wp2_with fail
              go_meet
              case rel =>
              rw [h]
              exact ⟨(X9.far (by first | omega | (simp; done) | (simp; omega)) _).far (by first | omega | (simp; done) | (simp; omega)) _, X10.set_, bS (bS Bw (by first | omega | (simp; done) | (simp; omega)) _) (by first | omega | (simp; done) | (simp; omega)) _⟩
          case rest =>
            clear Bw X9 X10 X7
            obtain ⟨X9, X10, Bw⟩ := hcut
            obtain ⟨l1, hl1⟩ : ∃ l1, l1 = (if bef d1 b1 then d1 else b1) := ⟨_, rfl⟩
            rw [← hl1] at X10
            have Hl := Lib.hid hl1; clear hl1
            have HS : sharedS a b c d = if f1 = l1 then 1 else if bef f1 l1 then 2 else 0 := by
              rw [Hf.out, Hl.out, Ha.out, Hb.out, Hc.out, Hd.out]
              rfl
            replace HS := Lib.hid HS
            obtain ⟨x10l, x100, x101, -, -⟩ := X10.facts
            obtain ⟨x9l, x90, x91, -, -⟩ := X9.facts
            have hE := run_eql_pt f1 l1
            go_wp2_with fail
            · go_ret
              refine ⟨ret_int ?_, Bw⟩
              rw [HS.out, if_pos (by assumption)]
            · refine (HT.out f1 l1 _).mono ?_
              rintro e w5 ⟨rfl, hb5⟩
              have hfl : ¬ f1 = l1 := by assumption
              cases h : bef f1 l1
              · go_wp2_with fail
                go_ret
                refine ⟨ret_int ?_, bT Bw hb5⟩
                rw [HS.out, if_neg hfl, h]
                rfl
              · go_wp2_with fail
                go_ret
                refine ⟨ret_int ?_, bT Bw hb5⟩
                rw [HS.out, if_neg hfl, h]
                rfl
end Go.Proofs.Ytibchmofckhofaa
