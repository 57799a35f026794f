/- plan.connected. -/
import Derived.Test.YtibchmofckhofaaPlanV
set_option linter.unusedSimpArgs false
set_option linter.unusedVariables false
namespace Go.Proofs.Ytibchmofckhofaa
open Go.RowKit

def hasB (l : List Int) (a : Ar) : Bool := l.any (fun y => y == a.fr) && l.any (fun y => y == a.dst)
/-- What 'connected' returns; l: the identifiers of the nodes. -/
def connS (p : Pl) (l : List Int) : Int :=
  if dupS (p.nodes.map (·.pt)) = true then 8 else if p.arcs.all (hasB l) = false then 7 else if sidesS p = false then 12 else 0

set_option maxRecDepth 100000 in
set_option maxHeartbeats 4000000 in
theorem connected_spec (v u : Value) (p : Pl) (l : List Int) (w : World) (h : PlV w v p) (hu : Ints w u l) :
    Calls Try.prog 38 #[v, u] w fun e w' => e = .returned (.int .i64 (connS p l)) ∧ Below w.heap.size w w' := by
  obtain ⟨_, _, vf, al, rfl, hpa, ⟨An, cn, rfl, hn1, hn2, hR⟩, ⟨⟨Aa, ca, rfl, ha1, ha2, hRa⟩, hV⟩, hF⟩ := h
  unfold maxLen at hn2 ha2
  have HF := Lib.hid hF; clear hF
  have HU := Lib.hid hu; clear hu
  have HV := Lib.hid hV; clear hV
  have HR := Lib.hid hR; clear hR
  have HRa := Lib.hid hRa; clear hRa
  have hc : connS p l = if dupS (p.nodes.map (·.pt)) = true then 8 else if al.all (fun a => hasB l a.1) = false then 7 else if al.all (fun a => faceS p.faces a.1.left && faceS p.faces a.1.right) = false then 12 else 0 := by
    unfold connS sidesS; rw [hpa, List.all_map, List.all_map]; rfl
  obtain ⟨q, hq⟩ : ∃ q, connS p l = q := ⟨_, rfl⟩
  rw [hq]
  rw [hc] at hq
  have Hq := Lib.hid hq; clear hq hc hpa
  generalize p.nodes = nl at *
  generalize p.faces = fl at *
  go_enter Try.func38, Try.ntmps38
  go_wp2_with fail
  obtain ⟨W0, hW0⟩ : ∃ W0 : World, W0 = w.alloc (.cells #[.slice An nl.length cn, .slice Aa al.length ca, vf] 26) := ⟨_, rfl⟩
  have X1 : Blk W0 w.heap.size 26 #[.slice An nl.length cn, .slice Aa al.length ca, vf] := by rw [hW0]; exact Blk.made rfl _ _
  have Bw0 : Below w.heap.size w W0 := by rw [hW0]; exact bA (bR w) _
  rw [← hW0]
  have HX0 := Lib.hid X1
  have HB0 := Lib.hid Bw0
  clear hW0 X1 Bw0
  go_loopw [18] (fun s wr => ∃ i : Nat, i ≤ nl.length ∧ s = .int .i64 i ∧ Below W0.heap.size W0 wr ∧ ∀ j k (hk : k < j) (hj : j < nl.length), j < i → ¬ nl[j].pt = nl[k].pt) (fun s _ => nl.length - (intOf s).toNat)
  case atStart => exact ⟨0, Nat.zero_le _, rfl, bR W0, fun _ _ _ _ h => by omega⟩
  case round =>
    obtain ⟨i, hi, rfl, hb, hno⟩ := hrel
    have Hb := Lib.hid hb
    have Hno := Lib.hid hno
    have X1 := HX0.out.keep hb
    clear hb hno
    try clear X1l
    try clear X1a
    try clear X1b
    try clear X1c
    try clear X1fa
    try clear X1fb
    try clear X1fc
    obtain ⟨X1l, X1a, X1b, X1c, -, -, -⟩ := X1.facts3
    by_cases hlt : i < nl.length
    case pos =>
      obtain ⟨b, o, rfl, hlb, c0, c1, c2⟩ := (HR.out.mono (bT HB0.out Hb.out)).nd hlt
      go_wp2_with fail
      obtain ⟨W1, hW1⟩ : ∃ W1 : World, W1 = wr.alloc (.cells #[.int .i64 nl[i].id, .int .i64 nl[i].pt.x, .int .i64 nl[i].pt.y] 32) := ⟨_, rfl⟩
      have B1 : Below W0.heap.size W0 W1 := by rw [hW1]; exact bA Hb.out _
      have X6 : Blk W1 wr.heap.size 32 #[.int .i64 nl[i].id, .int .i64 nl[i].pt.x, .int .i64 nl[i].pt.y] := by rw [hW1]; exact Blk.made rfl _ _
      rw [← hW1]
      have HX6 := Lib.hid X6
      have HB1 := Lib.hid B1
      clear c0 c1 c2 hlb hW1 X1 X1l X1a X1b X1c X6 B1
      obtain ⟨wo, rfl⟩ : ∃ wo : World, wo = wr := ⟨_, rfl⟩
      go_loopw [28] (fun s wx => ∃ k : Nat, k ≤ i ∧ s = .int .i64 k ∧ Below W1.heap.size W1 wx ∧ ∀ m (hm : m < nl.length), m < k → ¬ nl[i].pt = nl[m].pt) (fun s _ => i - (intOf s).toNat)
      case atStart => exact ⟨0, Nat.zero_le _, rfl, bR W1, fun _ _ h => by omega⟩
      case round =>
        obtain ⟨k, hk, rfl, hb, hno2⟩ := hrel
        have Hb2 := Lib.hid hb
        have Hno2 := Lib.hid hno2
        have X6 := HX6.out.keep hb
        clear hb hno2
        by_cases hlk : k < i
        case neg =>
          have HN := Lib.hid (show ∀ j m (hm : m < j) (hj : j < nl.length), j < i + 1 → ¬ nl[j].pt = nl[m].pt from fun j m hm hj hji => by
            by_cases e : j < i
            · exact Hno.out j m hm hj e
            · have : j = i := by omega
              subst this; exact Hno2.out m (by omega) (by omega))
          go_wp2_with fail
          go_roundw
          case rel => exact ⟨i + 1, by omega, by go_num, bT HB1.out Hb2.out, HN.out⟩
          case measure => simp [intOf]; omega
        have hkl : k < nl.length := by omega
        obtain ⟨b', o', hbo, hlb, c0, c1, c2⟩ := (HR.out.mono (bT HB0.out (bT HB1.out Hb2.out))).nd hkl
        simp only [Option.some.injEq, Addr.mk.injEq, and_true] at hbo
        obtain ⟨rfl, rfl⟩ := hbo
        try clear X6l
        try clear X6a
        try clear X6b
        try clear X6c
        try clear X6fa
        try clear X6fb
        try clear X6fc
        obtain ⟨X6l, X6a, X6b, X6c, -, -, -⟩ := X6.facts3
        have hE := run_eql_pt nl[i].pt nl[k].pt
        by_cases he : nl[i].pt = nl[k].pt
        · have hd : decide (nl[i].pt = nl[k].pt) = true := decide_eq_true he
          have hf := Lib.hid (show 8 = q by rw [← Hq.out, if_pos (dup_yes (nl.map (·.pt)) i k hlk (by simpa using hlt) (by simpa using he))])
          clear he
          go_wp2_with fail
          go_ret
          exact ⟨ret_int hf.out, bT HB0.out (bT HB1.out (bA Hb2.out _))⟩
        · have hd : decide (nl[i].pt = nl[k].pt) = false := decide_eq_false he
          have He := Lib.hid he
          clear he
          go_wp2_with fail
          go_roundw
          case rel => exact ⟨k + 1, by omega, by go_num, bA Hb2.out _, fun m hm hmk => if e : m < k then Hno2.out m hm e else by
              have : m = k := by omega
              subst this; exact He.out⟩
          case measure => simp [intOf]; omega
    case neg =>
    have hd := Lib.hid (dup_no (nl.map (·.pt)) (fun j m hm hj => by
        have := Hno.out j m hm (by simpa using hj) (by rw [List.length_map] at hj; omega)
        simpa using this))
    have ho := Hq.out
    rw [hd.out] at ho
    simp only [Bool.false_eq_true, if_false] at ho
    replace Hq := Lib.hid ho
    clear ho hd
    go_wp2_with fail
    obtain ⟨wo, rfl⟩ : ∃ wo : World, wo = wr := ⟨_, rfl⟩
    have HX1 := Lib.hid X1
    have HBo := Lib.hid (bT HB0.out Hb.out)
    clear X1 X1l X1a X1b X1c Hno
    go_loopw [42] (fun s wr => ∃ k : Nat, k ≤ al.length ∧ s = .int .i64 k ∧ Below wo.heap.size wo wr ∧ ∀ j (hj : j < al.length), j < k → hasB l al[j].1 = true) (fun s _ => al.length - (intOf s).toNat)
    case atStart => exact ⟨0, Nat.zero_le _, rfl, bR wo, fun _ _ h => by omega⟩
    case round =>
      obtain ⟨k, hk, rfl, hb, hno⟩ := hrel
      have Hb2 := Lib.hid hb
      have Hno := Lib.hid hno
      have X1 := HX1.out.keep hb
      clear hb hno
      try clear X1l
      try clear X1a
      try clear X1b
      try clear X1c
      try clear X1fa
      try clear X1fb
      try clear X1fc
      obtain ⟨X1l, X1a, X1b, X1c, -, -, -⟩ := X1.facts3
      by_cases hlt : k < al.length
      case pos =>
        obtain ⟨b, o, rfl, hlb, c0, c1, c2, c3, c4, c5⟩ := (HRa.out.mono (bT HBo.out Hb2.out)).ar hlt
        obtain ⟨Av, cv, hv, -⟩ := HV.out k hlt
        rw [hv] at c3
        clear hv
        go_wp2_with fail
        refine (Contains_int_spec _ l _ _ (HU.out.mono (bA (bT HBo.out Hb2.out) _))).mono ?_
        rintro e w2 ⟨rfl, hb2⟩
        have B2 := bT (bA Hb2.out _) hb2
        have X10 : Blk w2 wr.heap.size 37 _ := (Blk.made rfl _ _).keep hb2
        clear hb2 c0 c1 c2 c3 c4 c5 hlb
        try clear X10l
        try clear X10a
        try clear X10b
        try clear X10c
        try clear X10d
        try clear X10e
        try clear X10f
        try clear X10fa
        try clear X10fb
        try clear X10fc
        try clear X10fd
        try clear X10fe
        try clear X10ff
        obtain ⟨X10l, X10a, X10b, X10c, X10d, X10e, X10f, -, -, -, -, -, -⟩ := X10.facts6
        cases h1 : l.any (fun y => y == al[k].1.fr)
        case false =>
          have hg := Lib.hid (all_hit al (fun a => hasB l a.1) k hlt (by simp [hasB, h1]))
          have hf := Lib.hid (show 7 = q by rw [← Hq.out, if_pos hg.out])
          clear h1
          go_wp2_with fail
          go_ret
          exact ⟨ret_int hf.out, bT HBo.out B2⟩
        have H1 := Lib.hid h1; clear h1
        go_wp2_with fail
        refine (Contains_int_spec _ l _ _ (HU.out.mono (bT HBo.out B2))).mono ?_
        rintro e w3 ⟨rfl, hb3⟩
        have B3 := bT B2 hb3
        clear hb3 X10 X10l X10a X10b X10c X10d X10e X10f
        cases h1 : l.any (fun y => y == al[k].1.dst)
        case false =>
          have hg := Lib.hid (all_hit al (fun a => hasB l a.1) k hlt (by simp [hasB, h1]))
          have hf := Lib.hid (show 7 = q by rw [← Hq.out, if_pos hg.out])
          clear h1
          go_wp2_with fail
          go_ret
          exact ⟨ret_int hf.out, bT HBo.out B3⟩
        have hg := Lib.hid (show hasB l al[k].1 = true by simp only [hasB, H1.out, h1]; rfl)
        clear h1
        go_wp2_with fail
        go_roundw
        case rel => exact ⟨k + 1, by omega, by go_num, B3, all_succ (p := fun x => hasB l x.1 = true) Hno.out hlt hg.out⟩
        case measure => simp [intOf]; omega
      case neg =>
      have hd := Lib.hid (all_miss al (fun a => hasB l a.1) (fun j hj => Hno.out j hj (by omega)))
      have ho := Hq.out
      rw [hd.out] at ho
      simp only [Bool.true_eq_false, if_false] at ho
      replace Hq := Lib.hid ho
      clear ho hd
      go_wp2_with fail
      obtain ⟨wq, rfl⟩ : ∃ wq : World, wq = wr := ⟨_, rfl⟩
      replace HX1 := Lib.hid X1
      replace HBo := Lib.hid (bT HBo.out Hb2.out)
      clear X1 X1l X1a X1b X1c Hno Hb2
      go_loopw [62] (fun s wr => ∃ k : Nat, k ≤ al.length ∧ s = .int .i64 k ∧ Below wq.heap.size wq wr ∧ ∀ j (hj : j < al.length), j < k → (faceS fl al[j].1.left && faceS fl al[j].1.right) = true) (fun s _ => al.length - (intOf s).toNat)
      case atStart => exact ⟨0, Nat.zero_le _, rfl, bR wq, fun _ _ h => by omega⟩
      case round =>
        obtain ⟨k, hk, rfl, hb, hno⟩ := hrel
        have Hb2 := Lib.hid hb
        have Hno := Lib.hid hno
        have X1 := HX1.out.keep hb
        clear hb hno
        try clear X1l
        try clear X1a
        try clear X1b
        try clear X1c
        try clear X1fa
        try clear X1fb
        try clear X1fc
        obtain ⟨X1l, X1a, X1b, X1c, -, -, -⟩ := X1.facts3
        by_cases hlt : k < al.length
        case neg =>
          have hd := Lib.hid (all_miss al (fun a => faceS fl a.1.left && faceS fl a.1.right) (fun j hj => Hno.out j hj (by omega)))
          have hf := Lib.hid (show 0 = q by rw [← Hq.out, hd.out]; rfl)
          go_wp2_with fail
          go_ret
          exact ⟨ret_int hf.out, bT HBo.out Hb2.out⟩
        obtain ⟨b, o, rfl, hlb, c0, c1, c2, c3, c4, c5⟩ := (HRa.out.mono (bT HBo.out Hb2.out)).ar hlt
        obtain ⟨Av, cv, hv, -⟩ := HV.out k hlt
        rw [hv] at c3
        clear hv
        go_wp2_with fail
        obtain ⟨W5, hW5⟩ : ∃ W5 : World, W5 = wr.alloc (.cells #[.int .i64 al[k].1.id, .int .i64 al[k].1.fr, .int .i64 al[k].1.dst, .slice Av al[k].1.via.length cv, .int .i64 al[k].1.left, .int .i64 al[k].1.right] 37) := ⟨_, rfl⟩
        have hA5 : Below wr.heap.size wr W5 := by rw [hW5]; exact bA (bR wr) _
        have HB5 := Lib.hid (bT Hb2.out hA5)
        have HX5 := Lib.hid (X1.keep hA5)
        rw [← hW5]
        clear c0 c1 c2 c3 c4 c5 hlb hW5 hA5 X1 X1l X1a X1b X1c
        obtain ⟨wp, rfl⟩ : ∃ wp : World, wp = wr := ⟨_, rfl⟩
        go_loopw [71] (fun s wx => ∃ j : Int, (j = 0 ∨ j = 1 ∨ j = 2) ∧ s = .int .i64 j ∧ Below W5.heap.size W5 wx ∧ (1 ≤ j → faceS fl al[k].1.left = true) ∧ (2 ≤ j → faceS fl al[k].1.right = true)) (fun s _ => 2 - (intOf s).toNat)
        case atStart => exact ⟨0, by omega, rfl, bR W5, fun h => by omega, fun h => by omega⟩
        case round =>
          obtain ⟨j, hj, rfl, hb, hl, hr⟩ := hrel
          have Hb3 := Lib.hid hb
          have Hl := Lib.hid hl
          have Hr := Lib.hid hr
          clear hb hl hr
          rcases hj with rfl | rfl | rfl
          · -- left
            have hI : ∀ w, (Instr.index 80 (.agg #[.int .i64 al[k].1.left, .int .i64 al[k].1.right]) (.int .i64 0)).run Try.prog w = .ok (.int .i64 al[k].1.left) w := fun _ => by kernel_rfl
            cases hz : (al[k].1.left != 0)
            case false =>
              have hg := Lib.hid (show faceS fl al[k].1.left = true by
                have : al[k].1.left = 0 := by simpa [bne_eq_false_iff_eq] using hz
                simp [faceS, this])
              go_wp2_with fail
              go_roundw
              case rel => exact ⟨1, by omega, rfl, Hb3.out, fun h => by first | exact hg.out | exact Hl.out (by omega), fun h => by first | omega | exact hg.out⟩
              case measure => simp [intOf]
            have X1 := HX5.out.keep Hb3.out
            try clear X1l
            try clear X1a
            try clear X1b
            try clear X1c
            try clear X1fa
            try clear X1fb
            try clear X1fc
            obtain ⟨X1l, X1a, X1b, X1c, -, -, -⟩ := X1.facts3
            go_wp2_with fail
            refine (Contains_int_spec _ fl _ _ (HF.out.mono (bT HBo.out (bT HB5.out Hb3.out)))).mono ?_
            rintro e w6 ⟨rfl, hb6⟩
            have B6 := bT Hb3.out hb6
            clear hb6 X1 X1l X1a X1b X1c
            cases h1 : fl.any (fun y => y == al[k].1.left)
            case false =>
              have hfc := Lib.hid (show faceS fl al[k].1.left = false by
                have : ¬ al[k].1.left = 0 := by simpa using hz
                simp only [faceS, h1]; simpa using this)
              have hg := Lib.hid (all_hit al (fun a => faceS fl a.1.left && faceS fl a.1.right) k hlt (by simp [hfc.out]))
              have hf := Lib.hid (show 12 = q by rw [← Hq.out, if_pos hg.out])
              clear h1
              go_wp2_with fail
              go_ret
              exact ⟨ret_int hf.out, bT HBo.out (bT HB5.out B6)⟩
            have hg := Lib.hid (show faceS fl al[k].1.left = true by simp [faceS, h1])
            clear h1
            go_wp2_with fail
            go_roundw
            case rel => exact ⟨1, by omega, rfl, B6, fun h => by first | exact hg.out | exact Hl.out (by omega), fun h => by first | omega | exact hg.out⟩
            case measure => simp [intOf]
          · -- right
            have hI : ∀ w, (Instr.index 80 (.agg #[.int .i64 al[k].1.left, .int .i64 al[k].1.right]) (.int .i64 1)).run Try.prog w = .ok (.int .i64 al[k].1.right) w := fun _ => by kernel_rfl
            cases hz : (al[k].1.right != 0)
            case false =>
              have hg := Lib.hid (show faceS fl al[k].1.right = true by
                have : al[k].1.right = 0 := by simpa [bne_eq_false_iff_eq] using hz
                simp [faceS, this])
              go_wp2_with fail
              go_roundw
              case rel => exact ⟨2, by omega, rfl, Hb3.out, fun h => by first | exact hg.out | exact Hl.out (by omega), fun h => by first | omega | exact hg.out⟩
              case measure => simp [intOf]
            have X1 := HX5.out.keep Hb3.out
            try clear X1l
            try clear X1a
            try clear X1b
            try clear X1c
            try clear X1fa
            try clear X1fb
            try clear X1fc
            obtain ⟨X1l, X1a, X1b, X1c, -, -, -⟩ := X1.facts3
            go_wp2_with fail
            refine (Contains_int_spec _ fl _ _ (HF.out.mono (bT HBo.out (bT HB5.out Hb3.out)))).mono ?_
            rintro e w6 ⟨rfl, hb6⟩
            have B6 := bT Hb3.out hb6
            clear hb6 X1 X1l X1a X1b X1c
            cases h1 : fl.any (fun y => y == al[k].1.right)
            case false =>
              have hfc := Lib.hid (show faceS fl al[k].1.right = false by
                have : ¬ al[k].1.right = 0 := by simpa using hz
                simp only [faceS, h1]; simpa using this)
              have hg := Lib.hid (all_hit al (fun a => faceS fl a.1.left && faceS fl a.1.right) k hlt (by simp [hfc.out]))
              have hf := Lib.hid (show 12 = q by rw [← Hq.out, if_pos hg.out])
              clear h1
              go_wp2_with fail
              go_ret
              exact ⟨ret_int hf.out, bT HBo.out (bT HB5.out B6)⟩
            have hg := Lib.hid (show faceS fl al[k].1.right = true by simp [faceS, h1])
            clear h1
            go_wp2_with fail
            go_roundw
            case rel => exact ⟨2, by omega, rfl, B6, fun h => by first | exact hg.out | exact Hl.out (by omega), fun h => by first | omega | exact hg.out⟩
            case measure => simp [intOf]
          · have hg := Lib.hid (show (faceS fl al[k].1.left && faceS fl al[k].1.right) = true by rw [Hl.out (by omega), Hr.out (by omega)]; rfl)
            go_wp2_with fail
            go_roundw
            case rel => exact ⟨k + 1, by omega, by go_num, bT HB5.out Hb3.out, all_succ (p := fun x => (faceS fl x.1.left && faceS fl x.1.right) = true) Hno.out hlt hg.out⟩
            case measure => simp [intOf]; omega
end Go.Proofs.Ytibchmofckhofaa
