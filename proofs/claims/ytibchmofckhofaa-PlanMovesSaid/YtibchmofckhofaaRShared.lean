/- Package mapsheetsref08: shared. -/
import Derived.Test.YtibchmofckhofaaRef08
import Derived.Test.YtibchmofckhofaaGeom3
import Derived.Deep.DeepCutAuto
set_option linter.unusedSimpArgs false
set_option linter.unusedVariables false
namespace Go.Proofs.Ytibchmofckhofaa
open Go.RowKit

set_option maxHeartbeats 1000000 in
theorem Rshared_spec (a b c d : Pt) (w : World) :
    Calls Try.prog 102 #[ptV a, ptV b, ptV c, ptV d] w fun e w' => e = .returned (.int .i64 (sharedS a b c d)) ∧ Below w.heap.size w w' := by
  have T : ∀ p q : Pt, ∀ W, Calls Try.prog 110 #[ptV p, ptV q] W _ := fun p q W => first_spec p q W
  unfold ptV at T ⊢
  have HT := Lib.hid T; clear T
  go_enter Try.func102, Try.ntmps102
  go_wp2_with fail
  refine (HT.out b a _).mono ?_
  rintro e w1 ⟨rfl, hb1⟩
  have Bw : Below w.heap.size w w1 := by
    repeat (first | with_reducible exact bR _ | with_reducible assumption | with_reducible refine bA ?_ _ | with_reducible refine bD ?_ | with_reducible refine bN ?_ _ | ((with_reducible refine bS ?_ ?_ _); rotate_left; (simp; try omega)) | ((with_reducible refine bT ?_ ?_); rotate_left; with_reducible assumption) | with_reducible refine bT ?_ (by assumption))
  have X4 : Boxed w1 w.heap.size a := ((((Boxed.new _ a rfl).alloc _).alloc _).alloc _).keep hb1
  have X5 : Boxed w1 (w.heap.size + 1) b := (((Boxed.new _ b (by simp)).alloc _).alloc _).keep hb1
  have X6 : Boxed w1 (w.heap.size + 1 + 1) c := ((Boxed.new _ c (by simp)).alloc _).keep hb1
  have X7 : Boxed w1 (w.heap.size + 1 + 1 + 1) d := (Boxed.new _ d (by simp)).keep hb1
  clear hb1
  go_upto_if 11 with fail
  go_cut [] (fun wx => Boxed wx (w.heap.size) (if bef b a then b else a) ∧ Boxed wx (w.heap.size + 1) (if bef b a then a else b) ∧ Boxed wx (w.heap.size + 1 + 1) c ∧ Boxed wx (w.heap.size + 1 + 1 + 1) d ∧ Below w.heap.size w wx)
  case first =>
    try clear X4l
    try clear X4a
    try clear X4b
    try clear X4fa
    try clear X4fb
    obtain ⟨X4l, X4a, X4b, X4fa, X4fb⟩ := X4.facts2
    try clear X5l
    try clear X5a
    try clear X5b
    try clear X5fa
    try clear X5fb
    obtain ⟨X5l, X5a, X5b, X5fa, X5fb⟩ := X5.facts2
    cases h : bef b a
    · go_wp2_with fail
      go_meet
      case rel =>
      rw [h]
      exact ⟨X4, X5, X6, X7, Bw⟩
    · go_wp2_with fail
      go_meet
      case rel =>
      rw [h]
      exact ⟨(((X4).set_).far (by first | omega | (simp; done) | (simp; omega)) _).far (by first | omega | (simp; done) | (simp; omega)) _, (((X5).far (by first | omega | (simp; done) | (simp; omega)) _).far (by first | omega | (simp; done) | (simp; omega)) _).set_, ((((X6).far (by first | omega | (simp; done) | (simp; omega)) _).far (by first | omega | (simp; done) | (simp; omega)) _).far (by first | omega | (simp; done) | (simp; omega)) _).far (by first | omega | (simp; done) | (simp; omega)) _, ((((X7).far (by first | omega | (simp; done) | (simp; omega)) _).far (by first | omega | (simp; done) | (simp; omega)) _).far (by first | omega | (simp; done) | (simp; omega)) _).far (by first | omega | (simp; done) | (simp; omega)) _, bS (bS (bS (bS (Bw) (by first | omega | (simp; done) | (simp; omega)) _) (by first | omega | (simp; done) | (simp; omega)) _) (by first | omega | (simp; done) | (simp; omega)) _) (by first | omega | (simp; done) | (simp; omega)) _⟩
  case rest =>
    clear X4 X5 X6 X7 Bw
    obtain ⟨X4, X5, X6, X7, Bw⟩ := hcut
    obtain ⟨a1, ha1⟩ : ∃ a1, a1 = (if bef b a then b else a) := ⟨_, rfl⟩
    rw [← ha1] at X4
    have Ha1 := Lib.hid ha1; clear ha1
    obtain ⟨b1, hb1⟩ : ∃ b1, b1 = (if bef b a then a else b) := ⟨_, rfl⟩
    rw [← hb1] at X5
    have Hb1 := Lib.hid hb1; clear hb1
    try clear X6l
    try clear X6a
    try clear X6b
    try clear X6fa
    try clear X6fb
    obtain ⟨X6l, X6a, X6b, -, -⟩ := X6.facts2
    try clear X7l
    try clear X7a
    try clear X7b
    try clear X7fa
    try clear X7fb
    obtain ⟨X7l, X7a, X7b, -, -⟩ := X7.facts2
    go_wp2_with fail
    refine (HT.out d c _).mono ?_
    rintro e w2 ⟨rfl, hb2⟩
    replace Bw := bT Bw hb2
    replace X4 := X4.keep hb2
    replace X5 := X5.keep hb2
    replace X6 := X6.keep hb2
    replace X7 := X7.keep hb2
    clear hb2
    try clear X4l
    try clear X4a
    try clear X4b
    try clear X4fa
    try clear X4fb
    try clear X5l
    try clear X5a
    try clear X5b
    try clear X5fa
    try clear X5fb
    try clear X6l
    try clear X6a
    try clear X6b
    try clear X6fa
    try clear X6fb
    try clear X7l
    try clear X7a
    try clear X7b
    try clear X7fa
    try clear X7fb
    go_upto_if 16 with fail
    go_cut [] (fun wx => Boxed wx (w.heap.size) a1 ∧ Boxed wx (w.heap.size + 1) b1 ∧ Boxed wx (w.heap.size + 1 + 1) (if bef d c then d else c) ∧ Boxed wx (w.heap.size + 1 + 1 + 1) (if bef d c then c else d) ∧ Below w.heap.size w wx)
    case first =>
      try clear X6l
      try clear X6a
      try clear X6b
      try clear X6fa
      try clear X6fb
      obtain ⟨X6l, X6a, X6b, X6fa, X6fb⟩ := X6.facts2
      try clear X7l
      try clear X7a
      try clear X7b
      try clear X7fa
      try clear X7fb
      obtain ⟨X7l, X7a, X7b, X7fa, X7fb⟩ := X7.facts2
      cases h : bef d c
      · go_wp2_with fail
        go_meet
        case rel =>
        rw [h]
        exact ⟨X4, X5, X6, X7, Bw⟩
      · go_wp2_with fail
        go_meet
        case rel =>
        rw [h]
        exact ⟨((((X4).far (by first | omega | (simp; done) | (simp; omega)) _).far (by first | omega | (simp; done) | (simp; omega)) _).far (by first | omega | (simp; done) | (simp; omega)) _).far (by first | omega | (simp; done) | (simp; omega)) _, ((((X5).far (by first | omega | (simp; done) | (simp; omega)) _).far (by first | omega | (simp; done) | (simp; omega)) _).far (by first | omega | (simp; done) | (simp; omega)) _).far (by first | omega | (simp; done) | (simp; omega)) _, (((X6).set_).far (by first | omega | (simp; done) | (simp; omega)) _).far (by first | omega | (simp; done) | (simp; omega)) _, (((X7).far (by first | omega | (simp; done) | (simp; omega)) _).far (by first | omega | (simp; done) | (simp; omega)) _).set_, bS (bS (bS (bS (Bw) (by first | omega | (simp; done) | (simp; omega)) _) (by first | omega | (simp; done) | (simp; omega)) _) (by first | omega | (simp; done) | (simp; omega)) _) (by first | omega | (simp; done) | (simp; omega)) _⟩
    case rest =>
      clear X4 X5 X6 X7 Bw
      obtain ⟨X4, X5, X6, X7, Bw⟩ := hcut
      obtain ⟨c1, hc1⟩ : ∃ c1, c1 = (if bef d c then d else c) := ⟨_, rfl⟩
      rw [← hc1] at X6
      have Hc1 := Lib.hid hc1; clear hc1
      obtain ⟨d1, hd1⟩ : ∃ d1, d1 = (if bef d c then c else d) := ⟨_, rfl⟩
      rw [← hd1] at X7
      have Hd1 := Lib.hid hd1; clear hd1
      try clear X4l
      try clear X4a
      try clear X4b
      try clear X4fa
      try clear X4fb
      obtain ⟨X4l, X4a, X4b, -, -⟩ := X4.facts2
      try clear X6l
      try clear X6a
      try clear X6b
      try clear X6fa
      try clear X6fb
      obtain ⟨X6l, X6a, X6b, -, -⟩ := X6.facts2
      go_wp2_with fail
      refine (HT.out a1 c1 _).mono ?_
      rintro e w3 ⟨rfl, hb3⟩
      replace Bw := bT Bw hb3
      replace X4 := X4.keep hb3
      replace X5 := X5.keep hb3
      replace X6 := X6.keep hb3
      replace X7 := X7.keep hb3
      clear hb3
      try clear X4l
      try clear X4a
      try clear X4b
      try clear X4fa
      try clear X4fb
      try clear X5l
      try clear X5a
      try clear X5b
      try clear X5fa
      try clear X5fb
      try clear X6l
      try clear X6a
      try clear X6b
      try clear X6fa
      try clear X6fb
      try clear X7l
      try clear X7a
      try clear X7b
      try clear X7fa
      try clear X7fb
      go_upto_if 21 with fail
      go_cut [] (fun wx => Boxed wx (w.heap.size) (if bef a1 c1 then c1 else a1) ∧ Boxed wx (w.heap.size + 1) b1 ∧ Boxed wx (w.heap.size + 1 + 1) c1 ∧ Boxed wx (w.heap.size + 1 + 1 + 1) d1 ∧ Below w.heap.size w wx)
      case first =>
        try clear X4l
        try clear X4a
        try clear X4b
        try clear X4fa
        try clear X4fb
        obtain ⟨X4l, X4a, X4b, X4fa, X4fb⟩ := X4.facts2
        try clear X6l
        try clear X6a
        try clear X6b
        try clear X6fa
        try clear X6fb
        obtain ⟨X6l, X6a, X6b, X6fa, X6fb⟩ := X6.facts2
        cases h : bef a1 c1
        · go_wp2_with fail
          go_meet
          case rel =>
          rw [h]
          exact ⟨X4, X5, X6, X7, Bw⟩
        · go_wp2_with fail
          go_meet
          case rel =>
          rw [h]
          exact ⟨(X4).set_, ((X5).far (by first | omega | (simp; done) | (simp; omega)) _).far (by first | omega | (simp; done) | (simp; omega)) _, ((X6).far (by first | omega | (simp; done) | (simp; omega)) _).far (by first | omega | (simp; done) | (simp; omega)) _, ((X7).far (by first | omega | (simp; done) | (simp; omega)) _).far (by first | omega | (simp; done) | (simp; omega)) _, bS (bS (Bw) (by first | omega | (simp; done) | (simp; omega)) _) (by first | omega | (simp; done) | (simp; omega)) _⟩
      case rest =>
        clear X4 X5 X6 X7 Bw
        obtain ⟨X4, X5, X6, X7, Bw⟩ := hcut
        obtain ⟨a2, ha2⟩ : ∃ a2, a2 = (if bef a1 c1 then c1 else a1) := ⟨_, rfl⟩
        rw [← ha2] at X4
        have Ha2 := Lib.hid ha2; clear ha2
        try clear X5l
        try clear X5a
        try clear X5b
        try clear X5fa
        try clear X5fb
        obtain ⟨X5l, X5a, X5b, -, -⟩ := X5.facts2
        try clear X7l
        try clear X7a
        try clear X7b
        try clear X7fa
        try clear X7fb
        obtain ⟨X7l, X7a, X7b, -, -⟩ := X7.facts2
        go_wp2_with fail
        refine (HT.out d1 b1 _).mono ?_
        rintro e w4 ⟨rfl, hb4⟩
        replace Bw := bT Bw hb4
        replace X4 := X4.keep hb4
        replace X5 := X5.keep hb4
        replace X6 := X6.keep hb4
        replace X7 := X7.keep hb4
        clear hb4
        try clear X4l
        try clear X4a
        try clear X4b
        try clear X4fa
        try clear X4fb
        try clear X5l
        try clear X5a
        try clear X5b
        try clear X5fa
        try clear X5fb
        try clear X6l
        try clear X6a
        try clear X6b
        try clear X6fa
        try clear X6fb
        try clear X7l
        try clear X7a
        try clear X7b
        try clear X7fa
        try clear X7fb
        go_upto_if 25 with fail
        go_cut [] (fun wx => Boxed wx (w.heap.size) a2 ∧ Boxed wx (w.heap.size + 1) (if bef d1 b1 then d1 else b1) ∧ Boxed wx (w.heap.size + 1 + 1) c1 ∧ Boxed wx (w.heap.size + 1 + 1 + 1) d1 ∧ Below w.heap.size w wx)
        case first =>
          try clear X5l
          try clear X5a
          try clear X5b
          try clear X5fa
          try clear X5fb
          obtain ⟨X5l, X5a, X5b, X5fa, X5fb⟩ := X5.facts2
          try clear X7l
          try clear X7a
          try clear X7b
          try clear X7fa
          try clear X7fb
          obtain ⟨X7l, X7a, X7b, X7fa, X7fb⟩ := X7.facts2
          cases h : bef d1 b1
          · go_wp2_with fail
            go_meet
            case rel =>
            rw [h]
            exact ⟨X4, X5, X6, X7, Bw⟩
          · go_wp2_with fail
            go_meet
            case rel =>
            rw [h]
            exact ⟨((X4).far (by first | omega | (simp; done) | (simp; omega)) _).far (by first | omega | (simp; done) | (simp; omega)) _, (X5).set_, ((X6).far (by first | omega | (simp; done) | (simp; omega)) _).far (by first | omega | (simp; done) | (simp; omega)) _, ((X7).far (by first | omega | (simp; done) | (simp; omega)) _).far (by first | omega | (simp; done) | (simp; omega)) _, bS (bS (Bw) (by first | omega | (simp; done) | (simp; omega)) _) (by first | omega | (simp; done) | (simp; omega)) _⟩
        case rest =>
          clear X4 X5 X6 X7 Bw
          obtain ⟨X4, X5, X6, X7, Bw⟩ := hcut
          obtain ⟨b2, hb2⟩ : ∃ b2, b2 = (if bef d1 b1 then d1 else b1) := ⟨_, rfl⟩
          rw [← hb2] at X5
          have Hb2 := Lib.hid hb2; clear hb2
          have HS : sharedS a b c d = if a2 = b2 then 1 else if bef a2 b2 then 2 else 0 := by
            rw [Ha2.out, Hb2.out, Ha1.out, Hb1.out, Hc1.out, Hd1.out]
            rfl
          replace HS := Lib.hid HS
          try clear X4l
          try clear X4a
          try clear X4b
          try clear X4fa
          try clear X4fb
          obtain ⟨X4l, X4a, X4b, -, -⟩ := X4.facts2
          try clear X5l
          try clear X5a
          try clear X5b
          try clear X5fa
          try clear X5fb
          obtain ⟨X5l, X5a, X5b, -, -⟩ := X5.facts2
          have hE := run_eql_pt a2 b2
          go_wp2_with fail
          · go_ret
            refine ⟨ret_int ?_, Bw⟩
            rw [HS.out, if_pos (by assumption)]
          · refine (HT.out a2 b2 _).mono ?_
            rintro e w5 ⟨rfl, hb5⟩
            have hfl : ¬ a2 = b2 := by assumption
            cases h : bef a2 b2
            · go_wp2_with fail
              go_ret
              refine ⟨ret_int ?_, bT Bw hb5⟩
              rw [HS.out, if_neg hfl, h]
              rfl
            · go_wp2_with fail
              go_ret
              refine ⟨ret_int ?_, bT Bw hb5⟩
              rw [HS.out, if_neg hfl, h]
              rfl
end Go.Proofs.Ytibchmofckhofaa
