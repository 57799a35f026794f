/- mapsheetsref14.mapped and Mapped. -/
import Derived.Test.YtibchmofckhofaaRev
import Derived.Test.YtibchmofckhofaaPMoveB
set_option linter.unusedSimpArgs false
set_option linter.unusedVariables false
namespace Go.Proofs.Ytibchmofckhofaa
open Go.RowKit

def bd20 (q : Pt) : Prop := -1048576 ≤ q.x ∧ q.x ≤ 1048576 ∧ -1048576 ≤ q.y ∧ q.y ≤ 1048576
def bd22 (q : Pt) : Prop := -4194304 ≤ q.x ∧ q.x ≤ 4194304 ∧ -4194304 ≤ q.y ∧ q.y ≤ 4194304
set_option maxRecDepth 100000 in
set_option maxHeartbeats 2000000 in
theorem mapped_spec (q d : Pt) (t : Bool) (w : World) (hq : bd20 q) (hd : bd22 d) :
    Calls Try.prog 47 #[ptV q, ptV d, .bool t] w fun e w' => e = .returned (ptV (mvPt d t q)) ∧ Below w.heap.size w w' := by
  obtain ⟨q1, q2, q3, q4⟩ := hq
  obtain ⟨d1, d2, d3, d4⟩ := hd
  unfold ptV mvPt
  cases t
  · go_enter Try.func47, Try.ntmps47
    go_wp2_with fail
    refine res_cell (t := 30) (g := w.heap.size + 1 + 1) (cs := #[.int .i64 (q.x + d.x), .int .i64 (q.y + d.y)]) rfl struct_pt rfl rfl ?_ ⟨rfl, ?_⟩
    · exact Blk.made (by simp) _ _
    · exact bA (bA (bA (bR w) _) _) _
  · go_enter Try.func47, Try.ntmps47
    go_wp2_with fail
    all_goals
      refine res_cell (t := 30) (g := w.heap.size + 1 + 1) (cs := #[.int .i64 (-q.y + d.x), .int .i64 (q.x + d.y)]) rfl struct_pt rfl rfl ?_ ⟨rfl, ?_⟩
      · exact Blk.made (by simp) _ _
      · exact bA (bA (bA (bR w) _) _) _

set_option maxRecDepth 100000 in
set_option maxHeartbeats 8000000 in
theorem Mapped_spec (v : Value) (p : Pl) (d : Pt) (t : Bool) (w : World) (h : PlV w v p) (hqn : ∀ n ∈ p.nodes, bd20 n.pt) (hqa : ∀ a ∈ p.arcs, ∀ q ∈ a.via, bd20 q) (hd : bd22 d) (hln : p.nodes.length ≤ 1000) (hla : p.arcs.length ≤ 1000) (hlv : ∀ a ∈ p.arcs, a.via.length ≤ 1000) :
    Calls Try.prog 26 #[v, ptV d, .bool t] w (RetPlan w (mvPl d t p)) := by
  obtain ⟨_, _, _, al, rfl, hpa, hN, ⟨⟨Aa, ca, rfl, ha1, ha2, hRa⟩, hV⟩, hF⟩ := h
  obtain ⟨bl, rfl⟩ := hV.sv
  have HF := Lib.hid hF
  obtain ⟨An, cn, rfl, hn1, hn2, hRn⟩ := hN
  obtain ⟨Af, cf, rfl, hf1, hf2, -⟩ := hF
  have hres : p.arcs = bl.map (·.1) := by rw [hpa, List.map_map]; rfl
  have hbl : bl.length ≤ 1000 := by rw [hres, List.length_map] at hla; exact hla
  rw [List.length_map] at ha1
  rw [arS_flat] at hRa
  have HVk : Hid (∀ k (hk : k < bl.length), Pts w (.slice bl[k].2.a bl[k].2.n bl[k].2.c) bl[k].1.via) := Lib.hid fun k hk => by
    have := hV k (by simpa using hk)
    simpa [svA] using this
  have hmem : ∀ k (hk : k < bl.length), bl[k].1 ∈ p.arcs := fun k hk => by rw [hres]; exact List.mem_map_of_mem (List.getElem_mem hk)
  have HQv : Hid (∀ k (hk : k < bl.length), bl[k].1.via.length ≤ 1000 ∧ ∀ q ∈ bl[k].1.via, bd20 q) := Lib.hid fun k hk => ⟨hlv _ (hmem k hk), hqa _ (hmem k hk)⟩
  have HQn : Hid (∀ k (hk : k < p.nodes.length), bd20 p.nodes[k].pt) := Lib.hid fun k hk => hqn _ (List.getElem_mem hk)
  have Hres := Lib.hid hres
  have HRa : Hid (Row w Aa (bl.flatMap arS)) := Lib.hid hRa
  have HRn : Hid (Row w An (p.nodes.flatMap ndC)) := Lib.hid hRn
  have TM : Hid (∀ q : Pt, bd20 q → ∀ W, Calls Try.prog 47 #[.agg #[.int .i64 q.x, .int .i64 q.y], .agg #[.int .i64 d.x, .int .i64 d.y], .bool t] W fun e w' => e = .returned (.agg #[.int .i64 (mvPt d t q).x, .int .i64 (mvPt d t q).y]) ∧ Below W.heap.size W w') := Lib.hid fun q hq W => mapped_spec q d t W hq hd
  rw [List.length_map] at *
  unfold maxLen at ha2 hn2 hf2
  unfold ptV
  clear hV hres hRa hRn hpa hmem hqn hqa hd hla hlv
  generalize hmp : mvPl d t p = mp at *
  have Hmp := Lib.hid hmp
  clear hmp
  generalize hNl : p.nodes = nl at *
  have HNl := Lib.hid hNl
  clear hNl
  go_enter Try.func26, Try.ntmps26
  go_wp2_with fail
  obtain ⟨W7, hW7⟩ : ∃ W7 : World, W7 = (((w.alloc (.cells #[.slice An nl.length cn, .slice Aa bl.length ca, .slice Af p.faces.length cf] 26)).alloc (.cells #[.int .i64 d.x, .int .i64 d.y] 30)).alloc (.cells #[.slice none 0 0, .slice none 0 0, .slice none 0 0] 26)).alloc (.cells #[.slice none 0 0, .slice none 0 0, .slice Af p.faces.length cf] 26) := ⟨_, rfl⟩
  have hB7 : Below w.heap.size w W7 := by rw [hW7]; exact bA (bA (bA (bA (bR w) _) _) _) _
  have hs7 : W7.heap.size = w.heap.size + 4 := by rw [hW7]; simp
  have X3 : Blk W7 w.heap.size 26 #[.slice An nl.length cn, .slice Aa bl.length ca, .slice Af p.faces.length cf] := by rw [hW7]; exact (((Blk.made rfl _ _).alloc _).alloc _).alloc _
  have X4 : Blk W7 (w.heap.size + 1) 30 #[.int .i64 d.x, .int .i64 d.y] := by rw [hW7]; exact ((Blk.made (by simp) _ _).alloc _).alloc _
  have X6 : Blk W7 (w.heap.size + 1 + 1) 26 #[.slice none 0 0, .slice none 0 0, .slice none 0 0] := by rw [hW7]; exact (Blk.made (by simp) _ _).alloc _
  have X7 : Blk W7 (w.heap.size + 1 + 1 + 1) 26 #[.slice none 0 0, .slice none 0 0, .slice Af p.faces.length cf] := by rw [hW7]; exact Blk.made (by simp) _ _
  rw [← hW7]
  obtain ⟨g7, hg7⟩ : ∃ g7, g7 = w.heap.size + 1 + 1 + 1 := ⟨_, rfl⟩
  rw [← hg7]
  rw [← hg7] at X7
  have HX3 := Lib.hid X3; have HX4 := Lib.hid X4; have HX6 := Lib.hid X6; have HX7 := Lib.hid X7; have HB7 := Lib.hid hB7
  have hgw : w.heap.size + 3 ≤ g7 ∧ g7 ≤ w.heap.size + 3 ∧ W7.heap.size ≤ g7 + 1 ∧ g7 + 1 ≤ W7.heap.size := by omega
  obtain ⟨hgw1, hgw2, hgw3, hgw4⟩ := hgw
  clear hW7 hB7 hs7 X3 X4 X6 X7 hg7
  go_loopw [8] (fun u wr => ∃ (k : Nat) (A : Option Addr) (c : Nat), k ≤ nl.length ∧ u = .int .i64 k ∧ Blk wr g7 26 #[.slice A k c, .slice none 0 0, .slice Af p.faces.length cf] ∧ Own wr (g7 + 1) 32 3 ndC (.slice A k c) ((nl.take k).map (mvNd d t)) ∧ Below g7 W7 wr) (fun u _ => nl.length - (intOf u).toNat)
  case atStart => exact ⟨0, none, 0, Nat.zero_le _, rfl, HX7.out, Own.nil _ _ _ _ _, Below.refl _ _⟩
  case round =>
    obtain ⟨k, A, c, hk, rfl, hx7, ho7, hb⟩ := hrel
    have Hb := Lib.hid hb
    have hsz := hb.size
    have Hx7 := Lib.hid hx7
    have Ho7 := Lib.hid ho7
    have HBw := Lib.hid (show Below w.heap.size w wr from HB7.out.trans (hb.mono (by omega)))
    have X3 := HX3.out.below hb (by omega)
    have X4 := HX4.out.below hb (by omega)
    clear hb hx7 ho7
    try clear X3l
    try clear X3a
    try clear X3b
    try clear X3c
    try clear X3fa
    try clear X3fb
    try clear X3fc
    obtain ⟨X3l, X3a, X3b, X3c, -, -, -⟩ := X3.facts3
    by_cases hlt : k < nl.length
    case pos =>
      obtain ⟨b, o, rfl, hlb, c0, c1, c2⟩ := (HRn.out.mono HBw.out).nd hlt
      have X4' := X4
      try clear X4'l
      try clear X4'a
      try clear X4'b
      try clear X4'fa
      try clear X4'fb
      obtain ⟨X4'l, X4'a, X4'b, -, -⟩ := X4'.facts2
      go_wp2_with fail
      refine (TM.out nl[k].pt (HQn.out k hlt) _).mono ?_
      rintro e w5 ⟨rfl, hb5⟩
      have X9 : Blk w5 wr.heap.size 32 #[.int .i64 nl[k].id, .int .i64 nl[k].pt.x, .int .i64 nl[k].pt.y] := (Blk.made rfl _ _).keep hb5
      have hA5 : Below wr.heap.size wr w5 := bT (bA (bR wr) _) hb5
      have Y7 := Hx7.out.keep hA5
      have O7 := Ho7.out.keep hA5
      clear hb5 c0 c1 c2 hlb X3 X3l X3a X3b X3c X4 X4' X4'l X4'a X4'b
      try clear X9l
      try clear X9a
      try clear X9b
      try clear X9c
      try clear X9fa
      try clear X9fb
      try clear X9fc
      obtain ⟨X9l, X9a, X9b, X9c, X9fa, X9fb, X9fc⟩ := X9.facts3
      go_upto_region 7 with fail
      obtain ⟨W6, hW6⟩ : ∃ W6 : World, W6 = (w5.setCell ⟨wr.heap.size, 1, none⟩ (.int .i64 (mvPt d t nl[k].pt).x)).setCell ⟨wr.heap.size, 2, none⟩ (.int .i64 (mvPt d t nl[k].pt).y) := ⟨_, rfl⟩
      have hg7r : g7 < wr.heap.size := Hx7.out.lt
      have hne7 : ¬ g7 = wr.heap.size := by omega
      have X9' : Blk W6 wr.heap.size 32 #[.int .i64 nl[k].id, .int .i64 (mvPt d t nl[k].pt).x, .int .i64 (mvPt d t nl[k].pt).y] := by
        rw [hW6]
        have h := Blk.set_ (Blk.set_ X9 1 (.int .i64 (mvPt d t nl[k].pt).x)) 2 (.int .i64 (mvPt d t nl[k].pt).y)
        simpa using h
      have Y7' : Blk W6 g7 26 #[.slice A k c, .slice none 0 0, .slice Af p.faces.length cf] := by rw [hW6]; exact (Y7.far (p := ⟨wr.heap.size, 1, none⟩) hne7 _).far (p := ⟨wr.heap.size, 2, none⟩) hne7 _
      have hown7 : ∀ g, (Value.slice A k c).ownBlock = some g → g < wr.heap.size := fun g e => (Ho7.out.lt g e).2
      have O7' : Own W6 (g7 + 1) 32 3 ndC (.slice A k c) ((nl.take k).map (mvNd d t)) := by rw [hW6]; exact (O7.far (p := ⟨wr.heap.size, 1, none⟩) (fun e => by have := hown7 _ e; simp at this) _).far (p := ⟨wr.heap.size, 2, none⟩) (fun e => by have := hown7 _ e; simp at this) _
      have hB6 : Below g7 W7 W6 := by rw [hW6]; exact ((Hb.out.trans (hA5.mono (by omega))).setCell (p := ⟨wr.heap.size, 1, none⟩) (by simp; omega) _).setCell (p := ⟨wr.heap.size, 2, none⟩) (by simp; omega) _
      rw [← hW6]
      have HO7' := Lib.hid O7'; have HY7' := Lib.hid Y7'; have HB6 := Lib.hid hB6
      have hs6 := X9'.lt
      have hg76 : g7 + 1 ≤ W6.heap.size := by omega
      clear hW6 X9 X9l X9a X9b X9c X9fa X9fb X9fc hA5 Y7 O7 hown7 O7' hB6 hne7
      have hlen := Lib.hid (show ((nl.take k).map (mvNd d t)).length = k by rw [List.length_map, List.length_take]; omega)
      have hnew := Lib.hid (show (nl.take k).map (mvNd d t) ++ [mvNd d t nl[k]] = (nl.take (k + 1)).map (mvNd d t) by rw [List.take_succ_eq_append_getElem hlt, List.map_append]; rfl)
      have hlen' := Lib.hid (show ((nl.take (k + 1)).map (mvNd d t)).length = k + 1 by rw [List.length_map, List.length_take]; omega)
      try clear X9'l
      try clear X9'a
      try clear X9'b
      try clear X9'c
      try clear X9'fa
      try clear X9'fb
      try clear X9'fc
      obtain ⟨X9'l, X9'a, X9'b, X9'c, -, -, -⟩ := X9'.facts3
      try clear Y7'l
      try clear Y7'a
      try clear Y7'b
      try clear Y7'c
      try clear Y7'fa
      try clear Y7'fb
      try clear Y7'fc
      obtain ⟨Y7'l, Y7'a, Y7'b, Y7'c, -, -, -⟩ := Y7'.facts3
      go_wp2_with
        (at_builtin
         refine wpList_appl _ rfl (.tmp 35) (.tmp 37) _ rfl (base := g7 + 1) (l := (nl.take k).map (mvNd d t)) (l2 := [mvNd d t nl[k]]) elem_nd ndC_len ndC_one rfl (Own.alloc HO7'.out _) rfl (Sl.lit (n := 1) (Blk.made rfl _ _) rfl (le_maxLen (by omega))) (by have := hlen.out; simp only [List.length_cons, List.length_nil]; omega) (by have := hlen.out; simp only [List.length_cons, List.length_nil]; omega) (by simp; omega) ?_
         intro v9 w9 ho9 hg9 hat9
         rw [hnew.out] at ho9
         obtain ⟨A9, c9, hv9, -⟩ := Own.sl ho9
         rw [hlen'.out] at hv9
         subst hv9
         have Y9 := Blk.grown (HY7'.out.alloc _) hg9 (fun e => by have := (HO7'.out.lt _ e.symm).1; omega)
         have HB9 := Lib.hid (show Below g7 W7 w9 from Below.grown (HB6.out.alloc (by omega) _) hg9 (by simp; omega) (fun g hg => by have := (HO7'.out.lt g hg).1; omega))
         have HY9 := Lib.hid Y9; have HO9 := Lib.hid ho9
         obtain ⟨Y9l, Y9a, -, -, Y9fa, -, -⟩ := Y9.facts3
         clear Y9 ho9 hg9 hat9)
      go_roundw
      case rel => exact ⟨k + 1, A9, c9, by omega, by go_num, by have h := Blk.set_ HY9.out 0 (.slice A9 (k + 1) c9); simpa using h, HO9.out.far (p := ⟨g7, 0, none⟩) (fun e => by have := (HO9.out.lt _ e).1; simp at this; omega) _, HB9.out.setCell (p := ⟨g7, 0, none⟩) (by simp) _⟩
      case measure => simp [intOf]; omega
    case neg =>
    have hkn : k = nl.length := by omega
    subst hkn
    have ho := Ho7.out
    rw [List.take_length] at ho
    replace Ho7 := Lib.hid ho
    clear ho
    go_wp2_with fail
    obtain ⟨W8, rfl⟩ : ∃ W8 : World, W8 = wr := ⟨_, rfl⟩
    clear X3 X4 X3l X3a X3b X3c
    go_loopw [10] (fun u wr => ∃ (k : Nat) (A2 : Option Addr) (c2 : Nat) (ol : List (Ar × SV)), k ≤ bl.length ∧ u = .int .i64 k ∧ Blk wr g7 26 #[.slice A nl.length c, .slice A2 k c2, .slice Af p.faces.length cf] ∧ Own wr (g7 + 1) 32 3 ndC (.slice A nl.length c) (nl.map (mvNd d t)) ∧ Own wr (g7 + 1) 37 6 arS (.slice A2 k c2) ol ∧ ol.map (·.1) = (bl.take k).map (fun x => mvAr d t x.1) ∧ (∀ x ∈ ol, Own wr 0 30 2 ptC (.slice x.2.a x.2.n x.2.c) x.1.via) ∧ Below g7 W7 wr) (fun u _ => bl.length - (intOf u).toNat)
    case atStart => exact ⟨0, none, 0, [], Nat.zero_le _, rfl, Hx7.out, Ho7.out, Own.nil _ _ _ _ _, rfl, (fun _ h => by cases h), Hb.out⟩
    case round =>
      clear Hb Hx7 Ho7 HBw hsz
      obtain ⟨k, A2, c2, ol, hk, rfl, hx7, hon, hoa, hol, hov, hb⟩ := hrel
      have Hb := Lib.hid hb
      have hsz := hb.size
      have Hx7 := Lib.hid hx7
      have Hon := Lib.hid hon; have Hoa := Lib.hid hoa; have Hol := Lib.hid hol; have Hov := Lib.hid hov
      have HBw := Lib.hid (show Below w.heap.size w wr from HB7.out.trans (hb.mono (by omega)))
      have X3 := HX3.out.below hb (by omega)
      have HX3r := Lib.hid X3
      have HX4r := Lib.hid (HX4.out.below hb (by omega))
      have HX6r := Lib.hid (HX6.out.below hb (by omega))
      have hg7r : g7 < wr.heap.size := hx7.lt
      clear hb hx7 hon hoa hol hov
      try clear X3l
      try clear X3a
      try clear X3b
      try clear X3c
      try clear X3fa
      try clear X3fb
      try clear X3fc
      obtain ⟨X3l, X3a, X3b, X3c, -, -, -⟩ := X3.facts3
      by_cases hlt : k < bl.length
      case neg =>
        have hkn : k = bl.length := by omega
        subst hkn
        have X6 := HX6r.out
        have X7 := Hx7.out
        try clear X6l
        try clear X6a
        try clear X6b
        try clear X6c
        try clear X6fa
        try clear X6fb
        try clear X6fc
        obtain ⟨X6l, X6a, X6b, X6c, X6fa, X6fb, X6fc⟩ := X6.facts3
        try clear X7l
        try clear X7a
        try clear X7b
        try clear X7c
        try clear X7fa
        try clear X7fb
        try clear X7fc
        obtain ⟨X7l, X7a, X7b, X7c, -, -, -⟩ := X7.facts3
        have hne : ¬ g7 = w.heap.size + 1 + 1 := by omega
        go_wp2_with fail
        have Bf : Below w.heap.size w (((wr.setCell ⟨w.heap.size + 1 + 1, 0, none⟩ (.slice A nl.length c)).setCell ⟨w.heap.size + 1 + 1, 1, none⟩ (.slice A2 bl.length c2)).setCell ⟨w.heap.size + 1 + 1, 2, none⟩ (.slice Af p.faces.length cf)) := bS (bS (bS HBw.out (p := ⟨w.heap.size + 1 + 1, 0, none⟩) (by simp; omega) _) (p := ⟨w.heap.size + 1 + 1, 1, none⟩) (by simp; omega) _) (p := ⟨w.heap.size + 1 + 1, 2, none⟩) (by simp; omega) _
        have far3 : ∀ {α : Type} {base : Nat} {e : TypeId} {size : Nat} {f : α → List Value} {v : Value} {l : List α}, Own wr base e size f v l → v.ownBlock ≠ some (w.heap.size + 1 + 1) → Own (((wr.setCell ⟨w.heap.size + 1 + 1, 0, none⟩ (.slice A nl.length c)).setCell ⟨w.heap.size + 1 + 1, 1, none⟩ (.slice A2 bl.length c2)).setCell ⟨w.heap.size + 1 + 1, 2, none⟩ (.slice Af p.faces.length cf)) base e size f v l := fun h hne => ((h.far (p := ⟨w.heap.size + 1 + 1, 0, none⟩) hne _).far (p := ⟨w.heap.size + 1 + 1, 1, none⟩) hne _).far (p := ⟨w.heap.size + 1 + 1, 2, none⟩) hne _
        refine res_cell (t := 26) (g := w.heap.size + 1 + 1) (cs := #[.slice A nl.length c, .slice A2 bl.length c2, .slice Af p.faces.length cf]) rfl struct_pl rfl rfl (Blk.put3 X6) ⟨_, rfl, Bf, ?_⟩
        have hon := far3 Hon.out (fun e => by have := (Hon.out.lt _ e).1; omega)
        have hoa := far3 Hoa.out (fun e => by have := (Hoa.out.lt _ e).1; omega)
        have hol := Hol.out
        rw [List.take_length] at hol
        have ho3 := congrArg List.length hol
        rw [List.length_map, List.length_map] at ho3
        rw [← Hmp.out]
        have hn := Own.sl hon
        have ha := Own.sl hoa
        refine PlV.blocks (al := ol.map svA) ?_ ?_ ?_ ?_ (HF.out.mono Bf)
        · show p.arcs.map (mvAr d t) = _
          rw [Hres.out, List.map_map, List.map_map]
          exact hol.symm
        · show Nds _ _ (p.nodes.map (mvNd d t))
          rw [HNl.out]
          exact hn
        · rw [arS_flat, List.length_map]
          exact ha
        · intro m hm
          rw [List.length_map] at hm
          rw [List.getElem_map]
          have hv := Own.sl (far3 (Hov.out _ (List.getElem_mem hm)) (Own.ne_blk (Hov.out _ (List.getElem_mem hm)) X6 (by decide)))
          obtain ⟨Aq, cq, hq, -⟩ := hv
          injection hq with _ e2 _
          have hv := Own.sl (far3 (Hov.out _ (List.getElem_mem hm)) (Own.ne_blk (Hov.out _ (List.getElem_mem hm)) X6 (by decide)))
          exact hv
      obtain ⟨sa, sc, hsv, hsn1, hsn2, hsR⟩ := HVk.out k hlt
      injection hsv with e1 e2 e3
      unfold maxLen at hsn2
      obtain ⟨hVl, hVq⟩ := HQv.out k hlt
      obtain ⟨b, o, rfl, hlb, c0, c1, c2', c3, c4, c5⟩ := HRa.out.as_ hlt
      rw [e1, e2, e3] at c3
      clear e1 e2 e3
      generalize hx : bl[k].1 = x at *
      have HX := Lib.hid hx
      clear hx
      generalize hVV : x.via = V at *
      have HVV := Lib.hid hVV
      clear hVV
      have HsR := Lib.hid hsR
      have HVq := Lib.hid (show ∀ j (hj : j < V.length), bd20 V[j] from fun j hj => hVq _ (List.getElem_mem hj))
      have Z0 := keepc HBw.out c0; have Z1 := keepc HBw.out c1; have Z2 := keepc HBw.out c2'; have Z3 := keepc HBw.out c3; have Z4 := keepc HBw.out c4; have Z5 := keepc HBw.out c5
      have HC3 := Lib.hid c3
      have hlbw : b < wr.heap.size := by have := HBw.out.size; omega
      clear c0 c1 c2' c3 c4 c5 hsR hVq
      go_wp2_with fail
      obtain ⟨W11, hW11⟩ : ∃ W11 : World, W11 = wr.alloc (.cells #[.int .i64 x.id, .int .i64 x.fr, .int .i64 x.dst, .slice none 0 0, .int .i64 x.left, .int .i64 x.right] 37) := ⟨_, rfl⟩
      obtain ⟨g11, hg11⟩ : ∃ g11, g11 = wr.heap.size := ⟨_, rfl⟩
      rw [← hW11, ← hg11]
      have hA11 : Below wr.heap.size wr W11 := by rw [hW11]; exact bA (bR wr) _
      have HX11 : Hid (Blk W11 g11 37 #[.int .i64 x.id, .int .i64 x.fr, .int .i64 x.dst, .slice none 0 0, .int .i64 x.left, .int .i64 x.right]) := Lib.hid (by rw [hW11, hg11]; exact Blk.made rfl _ _)
      have hs11 : W11.heap.size ≤ g11 + 1 ∧ g11 + 1 ≤ W11.heap.size := by rw [hW11, hg11]; simp
      obtain ⟨hs11a, hs11b⟩ := hs11
      have hg11w : wr.heap.size ≤ g11 ∧ g11 ≤ wr.heap.size := by omega
      obtain ⟨hg11a, hg11b⟩ := hg11w
      have HA11 := Lib.hid (show Below g11 wr W11 by rw [hg11]; exact hA11)
      clear hW11 hg11 hA11 X3 X3l X3a X3b X3c Z0 Z1 Z2 Z3 Z4 Z5
      obtain ⟨Wr, rfl⟩ : ∃ Wr : World, Wr = wr := ⟨_, rfl⟩
      go_loopw [12] (fun u wx => ∃ (j : Nat) (Av : Option Addr) (cv : Nat), j ≤ V.length ∧ u = .int .i64 j ∧ Blk wx g11 37 #[.int .i64 x.id, .int .i64 x.fr, .int .i64 x.dst, .slice Av j cv, .int .i64 x.left, .int .i64 x.right] ∧ Own wx (g11 + 1) 30 2 ptC (.slice Av j cv) ((V.take j).map (mvPt d t)) ∧ Below g11 W11 wx) (fun u _ => V.length - (intOf u).toNat)
      case atStart => exact ⟨0, none, 0, Nat.zero_le _, rfl, HX11.out, Own.nil _ _ _ _ _, Below.refl _ _⟩
      case round =>
        obtain ⟨j, Av, cv, hj, rfl, hx11, hov, hb⟩ := hrel
        have hszx := hb.size
        have Hbx := Lib.hid hb
        have Hbw := Lib.hid (HA11.out.trans hb)
        have Hx11 := Lib.hid hx11
        have Hov2 := Lib.hid hov
        have Bx := Lib.hid (show Below w.heap.size w wr from HBw.out.trans ((HA11.out.trans hb).mono (by omega)))
        have X3 := HX3r.out.below (HA11.out.trans hb) (by omega)
        have c3 := keepc Bx.out HC3.out
        have hlbx : b < g11 := by omega
        clear hb hx11 hov
        try clear X3l
        try clear X3a
        try clear X3b
        try clear X3c
        try clear X3fa
        try clear X3fb
        try clear X3fc
        obtain ⟨X3l, X3a, X3b, X3c, -, -, -⟩ := X3.facts3
        by_cases hlj : j < V.length
        case pos =>
          obtain ⟨bv, ov, rfl, hlv, d0', d1'⟩ := HsR.out.pt hlj
          have d0 := keepc Bx.out d0'
          have d1 := keepc Bx.out d1'
          have hlv6 : bv < g11 := by have := HBw.out.size; omega
          have X11 := Hx11.out
          have X4 := HX4r.out.below Hbw.out (by omega)
          have hn4 : w.heap.size + 1 < g11 := by omega
          have hn3 : w.heap.size < g11 := by omega
          clear d0' d1'
          try clear X11l
          try clear X11a
          try clear X11b
          try clear X11c
          try clear X11d
          try clear X11e
          try clear X11f
          try clear X11fa
          try clear X11fb
          try clear X11fc
          try clear X11fd
          try clear X11fe
          try clear X11ff
          obtain ⟨X11l, X11a, X11b, X11c, X11d, X11e, X11f, X11fa, X11fb, X11fc, X11fd, X11fe, X11ff⟩ := X11.facts6
          try clear X4l
          try clear X4a
          try clear X4b
          try clear X4fa
          try clear X4fb
          obtain ⟨X4l, X4a, X4b, -, -⟩ := X4.facts2
          have hnew := Lib.hid (show (V.take j).map (mvPt d t) ++ [mvPt d t V[j]] = (V.take (j + 1)).map (mvPt d t) by rw [List.take_succ_eq_append_getElem hlj, List.map_append]; rfl)
          have hlen := Lib.hid (show ((V.take j).map (mvPt d t)).length = j by rw [List.length_map, List.length_take]; omega)
          have hlen' := Lib.hid (show ((V.take (j + 1)).map (mvPt d t)).length = j + 1 by rw [List.length_map, List.length_take]; omega)
          have q1 : 0 ≤ (j : Int) := by omega
          have q2 : (j : Int) < V.length := by omega
          have q3 : (j : Int).toNat = j := by omega
          have q4 : 0 ≤ (k : Int) := by omega
          have q5 : (k : Int) < bl.length := by omega
          have q6 : (k : Int).toNat = k := by omega
          have hg11r : g11 < wr.heap.size := X11l
          go_upto_region 16 with fail
          refine rg_start (SinceB (g11) wr) (.take 0 1 (.take 2 5 (.take 3 13 (.take 4 29 (.take 5 61 (.take 6 125 (.take 7 253 (.take 8 509 (.take 9 1021 (.take 10 2045 (.take 11 4093 (.take 12 8189 (.two 1 8191 (.call 13 16383 (.call 14 32767 (.call 15 65535 (.take 16 131071 (.call 17 262143 (.done)))))) 13 16381 (.two 1 16383 (.call 14 32767 (.call 15 65535 (.take 16 131071 (.call 17 262143 (.done))))) 14 32765 (.call 1 32767 (.call 15 65535 (.take 16 131071 (.call 17 262143 (.done))))))))))))))))))) (by kernel_rfl) (Below.drew (Below.refl _ _)) (by kernel_rfl) (by kernel_rfl) (Nat.le_of_ble_eq_true (by kernel_rfl)) ?_
          intro opsR QR Hops HQrg hS
          refine rg_take (i := 0) (get_of Hops rfl) hS ?_
          apply Exists.intro
          apply And.intro
          · refine .inl ⟨(wanted_plain rfl), fun wq hq => ?_⟩
            clear hq
            go_simp
            try rfl
          try simp only [Act.put, List.setIfInBounds_toArray, List.set_cons_zero, List.set_cons_succ]
          refine rg_take (i := 2) (get_of Hops rfl) hS ?_
          apply Exists.intro
          apply And.intro
          · refine .inl ⟨(wanted_plain rfl), fun wq hq => ?_⟩
            clear hq
            go_simp
            try rfl
          try simp only [Act.put, List.setIfInBounds_toArray, List.set_cons_zero, List.set_cons_succ]
          refine rg_take (i := 3) (get_of Hops rfl) hS ?_
          apply Exists.intro
          apply And.intro
          · refine .inl ⟨(wanted_plain rfl), fun wq hq => ?_⟩
            have hq' : Below (g11) wr wq := hq
            obtain ⟨hqc, -⟩ := bcellB hq'
            clear hq hq'
            go_simp
            try rfl
          try simp only [Act.put, List.setIfInBounds_toArray, List.set_cons_zero, List.set_cons_succ]
          refine rg_take (i := 4) (get_of Hops rfl) hS ?_
          apply Exists.intro
          apply And.intro
          · refine .inl ⟨(wanted_plain rfl), fun wq hq => ?_⟩
            clear hq
            go_simp
            try rfl
          try simp only [Act.put, List.setIfInBounds_toArray, List.set_cons_zero, List.set_cons_succ]
          refine rg_take (i := 5) (get_of Hops rfl) hS ?_
          apply Exists.intro
          apply And.intro
          · refine .inl ⟨(wanted_plain rfl), fun wq hq => ?_⟩
            clear hq
            go_simp
            try rfl
          try simp only [Act.put, List.setIfInBounds_toArray, List.set_cons_zero, List.set_cons_succ]
          refine rg_take (i := 6) (get_of Hops rfl) hS ?_
          apply Exists.intro
          apply And.intro
          · refine .inl ⟨(wanted_plain rfl), fun wq hq => ?_⟩
            clear hq
            go_simp
            try rfl
          try simp only [Act.put, List.setIfInBounds_toArray, List.set_cons_zero, List.set_cons_succ]
          refine rg_take (i := 7) (get_of Hops rfl) hS ?_
          apply Exists.intro
          apply And.intro
          · refine .inl ⟨(wanted_plain rfl), fun wq hq => ?_⟩
            have hq' : Below (g11) wr wq := hq
            obtain ⟨hqc, -⟩ := bcellB hq'
            clear hq hq'
            go_simp
            try rfl
          try simp only [Act.put, List.setIfInBounds_toArray, List.set_cons_zero, List.set_cons_succ]
          refine rg_take (i := 8) (get_of Hops rfl) hS ?_
          apply Exists.intro
          apply And.intro
          · refine .inl ⟨(wanted_plain rfl), fun wq hq => ?_⟩
            clear hq
            go_simp
            try rfl
          try simp only [Act.put, List.setIfInBounds_toArray, List.set_cons_zero, List.set_cons_succ]
          refine rg_take (i := 9) (get_of Hops rfl) hS ?_
          apply Exists.intro
          apply And.intro
          · refine .inl ⟨(wanted_plain rfl), fun wq hq => ?_⟩
            clear hq
            go_simp
            try rfl
          try simp only [Act.put, List.setIfInBounds_toArray, List.set_cons_zero, List.set_cons_succ]
          refine rg_take (i := 10) (get_of Hops rfl) hS ?_
          apply Exists.intro
          apply And.intro
          · refine .inl ⟨(wanted_plain rfl), fun wq hq => ?_⟩
            have hq' : Below (g11) wr wq := hq
            obtain ⟨hqc, -⟩ := bcellB hq'
            clear hq hq'
            go_simp
            try rfl
          try simp only [Act.put, List.setIfInBounds_toArray, List.set_cons_zero, List.set_cons_succ]
          refine rg_take (i := 11) (get_of Hops rfl) hS ?_
          apply Exists.intro
          apply And.intro
          · refine .inl ⟨(wanted_plain rfl), fun wq hq => ?_⟩
            have hq' : Below (g11) wr wq := hq
            obtain ⟨hqc, -⟩ := bcellB hq'
            clear hq hq'
            go_simp
            try rfl
          try simp only [Act.put, List.setIfInBounds_toArray, List.set_cons_zero, List.set_cons_succ]
          refine rg_take (i := 12) (get_of Hops rfl) hS ?_
          apply Exists.intro
          apply And.intro
          · refine .inl ⟨(wanted_plain rfl), fun wq hq => ?_⟩
            clear hq
            go_simp
            try rfl
          try simp only [Act.put, List.setIfInBounds_toArray, List.set_cons_zero, List.set_cons_succ]
          refine rg_two (i := 1) (j := 13) (get_of Hops rfl) (get_of Hops rfl) (fun K hK => ?_) (fun K hK => ?_)
          -- operation 1 first
          ·
            have HSrg := Lib.hid hS; clear hS
            refine rg_run (wanted_plain rfl) ?_
            go_simp
            refine hK.out _ _ HSrg.out (fun hS => ?_)
            clear hK K HSrg
            try simp only [Act.put, List.setIfInBounds_toArray, List.set_cons_zero, List.set_cons_succ]
            refine rg_call (i := 13) (get_of Hops rfl) (fun K hK => ?_)
            have HSrg := Lib.hid hS; clear hS
            refine rg_run (wanted_plain rfl) ?_
            go_simp
            refine (TM.out V[j] (HVq.out j hlj) _).mono ?_
            rintro e wy ⟨rfl, hby⟩
            have hS : SinceB g11 wr wy := Below.trans HSrg.out (hby.mono (by have := (Below.size HSrg.out); omega))
            have hzy := hby.size
            simp only [World.size_drew] at hzy
            have HBy := Lib.hid (show Below wr.heap.size wr wy from bT (bD (bR wr)) hby)
            clear hby
            have X11y := Hx11.out.keep HBy.out
            obtain ⟨y0, -, -, -, y3, -, -, -, -, -, -, -, -⟩ := X11y.facts6
            clear X11y
            clear HSrg
            refine hK.out _ _ hS (fun _ => ?_)
            clear hK K
            try simp only [Act.put, List.setIfInBounds_toArray, List.set_cons_zero, List.set_cons_succ]
            refine rg_call (i := 14) (get_of Hops rfl) (fun K hK => ?_)
            have HSrg := Lib.hid hS; clear hS
            refine rg_run (wanted_plain rfl) ?_
            go_simp
            refine hK.out _ _ (bAB (by omega) HSrg.out _) (fun hS => ?_)
            clear hK K HSrg
            try simp only [Act.put, List.setIfInBounds_toArray, List.set_cons_zero, List.set_cons_succ]
            refine rg_call (i := 15) (get_of Hops rfl) (fun K hK => ?_)
            have HSrg := Lib.hid hS; clear hS
            refine rg_run (wanted_plain rfl) ?_
            refine wp_appl (.tmp 65) (.tmp 78) _ rfl (base := g11 + 1) (l := (V.take j).map (mvPt d t)) (l2 := [mvPt d t V[j]]) elem_pt ptC_len ptC_one rfl (Own.alloc (Hov2.out.keep HBy.out) _) rfl (Pts.one (x := mvPt d t V[j]) (Blk.made rfl _ _)) (by have := hlen.out; simp only [List.length_cons, List.length_nil]; omega) (by have := hlen.out; simp only [List.length_cons, List.length_nil]; omega) (by simp; omega) ?_
            intro v9 wn hon9 hgn hatn
            rw [hnew.out] at hon9
            obtain ⟨A9, c9, hv9, -⟩ := Own.sl hon9
            rw [hlen'.out] at hv9
            subst hv9
            have X6n := Blk.grown (Blk.alloc (Hx11.out.keep HBy.out) _) hgn (fun e => by have := (Hov2.out.lt _ e.symm).1; omega)
            obtain ⟨-, -, -, -, n3, -, -, -, -, -, nf3, -, -⟩ := X6n.facts6
            have HX6n := Lib.hid X6n
            have Hon9 := Lib.hid hon9
            clear X6n hon9
            have hS : SinceB g11 wr wn := Below.grown (Below.alloc (HBy.out.mono (by omega)) (by omega) _) hgn (by simp; omega) (fun g hg => by have := (Hov2.out.lt g hg).1; omega)
            clear HSrg
            refine hK.out _ _ hS (fun _ => ?_)
            clear hK K
            try simp only [Act.put, List.setIfInBounds_toArray, List.set_cons_zero, List.set_cons_succ]
            refine rg_take (i := 16) (get_of Hops rfl) hS ?_
            apply Exists.intro
            apply And.intro
            · refine .inl ⟨(wanted_plain rfl), fun wq hq => ?_⟩
              clear hq
              go_simp
              try rfl
            try simp only [Act.put, List.setIfInBounds_toArray, List.set_cons_zero, List.set_cons_succ]
            refine rg_call (i := 17) (get_of Hops rfl) (fun K hK => ?_)
            have HSrg := Lib.hid hS; clear hS
            refine rg_run (wanted_plain rfl) ?_
            go_simp
            refine hK.out _ _ (bSB HSrg.out ?_ _) ?_
            · omega
            intro hS
            clear hK K HSrg
            try simp only [Act.put, List.setIfInBounds_toArray, List.set_cons_zero, List.set_cons_succ]
            refine rg_done ?_
            refine HQrg.down _ _ ?_
            have hB : Below (g11) wr _ := hS
            clear hS HQrg Hops
            go_wp2_with fail
            go_roundw
            case rel => exact ⟨j + 1, A9, c9, by omega, by go_num, by have h := Blk.set_ HX6n.out 3 (.slice A9 (j + 1) c9); simpa using h, Hon9.out.far (p := ⟨g11, 3, none⟩) (fun e => by have := (Hon9.out.lt g11 e).1; omega) _, Hbx.out.trans hB⟩
            case measure => simp [intOf]; omega
          -- operation 13 first
          ·
            have HSrg := Lib.hid hS; clear hS
            refine rg_run (wanted_plain rfl) ?_
            go_simp
            refine (TM.out V[j] (HVq.out j hlj) _).mono ?_
            rintro e wy ⟨rfl, hby⟩
            have hS : SinceB g11 wr wy := Below.trans HSrg.out (hby.mono (by have := (Below.size HSrg.out); omega))
            have hzy := hby.size
            simp only [World.size_drew] at hzy
            have HBy := Lib.hid (show Below wr.heap.size wr wy from bT (bD (bR wr)) hby)
            clear hby
            have X11y := Hx11.out.keep HBy.out
            obtain ⟨y0, -, -, -, y3, -, -, -, -, -, -, -, -⟩ := X11y.facts6
            clear X11y
            clear HSrg
            refine hK.out _ _ hS (fun _ => ?_)
            clear hK K
            try simp only [Act.put, List.setIfInBounds_toArray, List.set_cons_zero, List.set_cons_succ]
            refine rg_two (i := 1) (j := 14) (get_of Hops rfl) (get_of Hops rfl) (fun K hK => ?_) (fun K hK => ?_)
            -- operation 1 first
            ·
              have HSrg := Lib.hid hS; clear hS
              refine rg_run (wanted_plain rfl) ?_
              go_simp
              refine hK.out _ _ HSrg.out (fun hS => ?_)
              clear hK K HSrg
              try simp only [Act.put, List.setIfInBounds_toArray, List.set_cons_zero, List.set_cons_succ]
              refine rg_call (i := 14) (get_of Hops rfl) (fun K hK => ?_)
              have HSrg := Lib.hid hS; clear hS
              refine rg_run (wanted_plain rfl) ?_
              go_simp
              refine hK.out _ _ (bAB (by omega) HSrg.out _) (fun hS => ?_)
              clear hK K HSrg
              try simp only [Act.put, List.setIfInBounds_toArray, List.set_cons_zero, List.set_cons_succ]
              refine rg_call (i := 15) (get_of Hops rfl) (fun K hK => ?_)
              have HSrg := Lib.hid hS; clear hS
              refine rg_run (wanted_plain rfl) ?_
              refine wp_appl (.tmp 65) (.tmp 78) _ rfl (base := g11 + 1) (l := (V.take j).map (mvPt d t)) (l2 := [mvPt d t V[j]]) elem_pt ptC_len ptC_one rfl (Own.alloc (Hov2.out.keep HBy.out) _) rfl (Pts.one (x := mvPt d t V[j]) (Blk.made rfl _ _)) (by have := hlen.out; simp only [List.length_cons, List.length_nil]; omega) (by have := hlen.out; simp only [List.length_cons, List.length_nil]; omega) (by simp; omega) ?_
              intro v9 wn hon9 hgn hatn
              rw [hnew.out] at hon9
              obtain ⟨A9, c9, hv9, -⟩ := Own.sl hon9
              rw [hlen'.out] at hv9
              subst hv9
              have X6n := Blk.grown (Blk.alloc (Hx11.out.keep HBy.out) _) hgn (fun e => by have := (Hov2.out.lt _ e.symm).1; omega)
              obtain ⟨-, -, -, -, n3, -, -, -, -, -, nf3, -, -⟩ := X6n.facts6
              have HX6n := Lib.hid X6n
              have Hon9 := Lib.hid hon9
              clear X6n hon9
              have hS : SinceB g11 wr wn := Below.grown (Below.alloc (HBy.out.mono (by omega)) (by omega) _) hgn (by simp; omega) (fun g hg => by have := (Hov2.out.lt g hg).1; omega)
              clear HSrg
              refine hK.out _ _ hS (fun _ => ?_)
              clear hK K
              try simp only [Act.put, List.setIfInBounds_toArray, List.set_cons_zero, List.set_cons_succ]
              refine rg_take (i := 16) (get_of Hops rfl) hS ?_
              apply Exists.intro
              apply And.intro
              · refine .inl ⟨(wanted_plain rfl), fun wq hq => ?_⟩
                clear hq
                go_simp
                try rfl
              try simp only [Act.put, List.setIfInBounds_toArray, List.set_cons_zero, List.set_cons_succ]
              refine rg_call (i := 17) (get_of Hops rfl) (fun K hK => ?_)
              have HSrg := Lib.hid hS; clear hS
              refine rg_run (wanted_plain rfl) ?_
              go_simp
              refine hK.out _ _ (bSB HSrg.out ?_ _) ?_
              · omega
              intro hS
              clear hK K HSrg
              try simp only [Act.put, List.setIfInBounds_toArray, List.set_cons_zero, List.set_cons_succ]
              refine rg_done ?_
              refine HQrg.down _ _ ?_
              have hB : Below (g11) wr _ := hS
              clear hS HQrg Hops
              go_wp2_with fail
              go_roundw
              case rel => exact ⟨j + 1, A9, c9, by omega, by go_num, by have h := Blk.set_ HX6n.out 3 (.slice A9 (j + 1) c9); simpa using h, Hon9.out.far (p := ⟨g11, 3, none⟩) (fun e => by have := (Hon9.out.lt g11 e).1; omega) _, Hbx.out.trans hB⟩
              case measure => simp [intOf]; omega
            -- operation 14 first
            ·
              have HSrg := Lib.hid hS; clear hS
              refine rg_run (wanted_plain rfl) ?_
              go_simp
              refine hK.out _ _ (bAB (by omega) HSrg.out _) (fun hS => ?_)
              clear hK K HSrg
              try simp only [Act.put, List.setIfInBounds_toArray, List.set_cons_zero, List.set_cons_succ]
              refine rg_call (i := 1) (get_of Hops rfl) (fun K hK => ?_)
              have HSrg := Lib.hid hS; clear hS
              refine rg_run (wanted_plain rfl) ?_
              go_simp
              refine hK.out _ _ HSrg.out (fun hS => ?_)
              clear hK K HSrg
              try simp only [Act.put, List.setIfInBounds_toArray, List.set_cons_zero, List.set_cons_succ]
              refine rg_call (i := 15) (get_of Hops rfl) (fun K hK => ?_)
              have HSrg := Lib.hid hS; clear hS
              refine rg_run (wanted_plain rfl) ?_
              refine wp_appl (.tmp 65) (.tmp 78) _ rfl (base := g11 + 1) (l := (V.take j).map (mvPt d t)) (l2 := [mvPt d t V[j]]) elem_pt ptC_len ptC_one rfl (Own.alloc (Hov2.out.keep HBy.out) _) rfl (Pts.one (x := mvPt d t V[j]) (Blk.made rfl _ _)) (by have := hlen.out; simp only [List.length_cons, List.length_nil]; omega) (by have := hlen.out; simp only [List.length_cons, List.length_nil]; omega) (by simp; omega) ?_
              intro v9 wn hon9 hgn hatn
              rw [hnew.out] at hon9
              obtain ⟨A9, c9, hv9, -⟩ := Own.sl hon9
              rw [hlen'.out] at hv9
              subst hv9
              have X6n := Blk.grown (Blk.alloc (Hx11.out.keep HBy.out) _) hgn (fun e => by have := (Hov2.out.lt _ e.symm).1; omega)
              obtain ⟨-, -, -, -, n3, -, -, -, -, -, nf3, -, -⟩ := X6n.facts6
              have HX6n := Lib.hid X6n
              have Hon9 := Lib.hid hon9
              clear X6n hon9
              have hS : SinceB g11 wr wn := Below.grown (Below.alloc (HBy.out.mono (by omega)) (by omega) _) hgn (by simp; omega) (fun g hg => by have := (Hov2.out.lt g hg).1; omega)
              clear HSrg
              refine hK.out _ _ hS (fun _ => ?_)
              clear hK K
              try simp only [Act.put, List.setIfInBounds_toArray, List.set_cons_zero, List.set_cons_succ]
              refine rg_take (i := 16) (get_of Hops rfl) hS ?_
              apply Exists.intro
              apply And.intro
              · refine .inl ⟨(wanted_plain rfl), fun wq hq => ?_⟩
                clear hq
                go_simp
                try rfl
              try simp only [Act.put, List.setIfInBounds_toArray, List.set_cons_zero, List.set_cons_succ]
              refine rg_call (i := 17) (get_of Hops rfl) (fun K hK => ?_)
              have HSrg := Lib.hid hS; clear hS
              refine rg_run (wanted_plain rfl) ?_
              go_simp
              refine hK.out _ _ (bSB HSrg.out ?_ _) ?_
              · omega
              intro hS
              clear hK K HSrg
              try simp only [Act.put, List.setIfInBounds_toArray, List.set_cons_zero, List.set_cons_succ]
              refine rg_done ?_
              refine HQrg.down _ _ ?_
              have hB : Below (g11) wr _ := hS
              clear hS HQrg Hops
              go_wp2_with fail
              go_roundw
              case rel => exact ⟨j + 1, A9, c9, by omega, by go_num, by have h := Blk.set_ HX6n.out 3 (.slice A9 (j + 1) c9); simpa using h, Hon9.out.far (p := ⟨g11, 3, none⟩) (fun e => by have := (Hon9.out.lt g11 e).1; omega) _, Hbx.out.trans hB⟩
              case measure => simp [intOf]; omega
        case neg =>
          have hkj : j = V.length := by omega
          subst hkj
          have hv := Hov2.out
          rw [List.take_length] at hv
          have HV := Lib.hid hv
          have hWr := Hbw.out.size
          have HOa := Lib.hid (Hoa.out.belowB Hbw.out (fun g hg => by have := (Hoa.out.lt g hg).2; omega))
          have HOn := Lib.hid (Hon.out.belowB Hbw.out (fun g hg => by have := (Hon.out.lt g hg).2; omega))
          have HOv := Lib.hid (fun y (hy : y ∈ ol) => (Hov.out y hy).belowB Hbw.out (fun g hg => by have := ((Hov.out y hy).lt g hg).2; omega))
          have HB7r := Lib.hid (show Below g7 W7 wr from Hb.out.trans (Hbw.out.mono (by omega)))
          have hol1 := congrArg List.length Hol.out
          rw [List.length_map, List.length_map, List.length_take] at hol1
          have hlen := Lib.hid (show ol.length = k by omega)
          have hlen' := Lib.hid (show (ol ++ [(mvAr d t x, (⟨Av, V.length, cv⟩ : SV))]).length = k + 1 by rw [List.length_append, hlen.out]; rfl)
          have X11 := Hx11.out
          have X7 := Hx7.out.below Hbw.out (by omega)
          have HX7r := Lib.hid X7
          have hg7w : g7 < wr.heap.size := X7.lt
          have q4 : 0 ≤ (k : Int) := by omega
          have q5 : (k : Int) < bl.length := by omega
          have q6 : (k : Int).toNat = k := by omega
          clear hol1 hv
          try clear X11l
          try clear X11a
          try clear X11b
          try clear X11c
          try clear X11d
          try clear X11e
          try clear X11f
          try clear X11fa
          try clear X11fb
          try clear X11fc
          try clear X11fd
          try clear X11fe
          try clear X11ff
          obtain ⟨X11l, X11a, X11b, X11c, X11d, X11e, X11f, -, -, -, -, -, -⟩ := X11.facts6
          try clear X7l
          try clear X7a
          try clear X7b
          try clear X7c
          try clear X7fa
          try clear X7fb
          try clear X7fc
          obtain ⟨X7l, X7a, X7b, X7c, -, -, -⟩ := X7.facts3
          go_wp2_with
            (at_builtin
             refine wpList_appl _ rfl (.tmp 82) (.tmp 84) _ rfl (base := g7 + 1) (l := ol) (l2 := [(mvAr d t x, (⟨Av, V.length, cv⟩ : SV))]) elem_ar arS_len arS_one rfl (Own.alloc HOa.out _) rfl (Sl.lit (n := 1) (Blk.made rfl _ _) rfl (le_maxLen (by omega))) (by have := hlen.out; simp only [List.length_cons, List.length_nil]; omega) (by have := hlen.out; simp only [List.length_cons, List.length_nil]; omega) (by simp; omega) ?_
             intro v9 w9 ho9 hg9 hat9
             obtain ⟨A9, c9, hv9, -⟩ := Own.sl ho9
             rw [hlen'.out] at hv9
             subst hv9
             have Y9 := Blk.grown (HX7r.out.alloc _) hg9 (fun e => by have := (HOa.out.lt _ e.symm).1; omega)
             have HB9 := Lib.hid (show Below g7 W7 w9 from Below.grown (HB7r.out.alloc (by omega) _) hg9 (by simp; omega) (fun g hg => by have := (HOa.out.lt g hg).1; omega))
             have HN9 := Lib.hid ((HOn.out.alloc _).grown hg9 (Own.apart HOn.out HOa.out (by decide)))
             have HV9 := Lib.hid (fun y (hy : y ∈ ol) => ((HOv.out y hy).alloc _).grown hg9 (Own.apart (HOv.out y hy) HOa.out (by decide)))
             have HZ9 := Lib.hid ((HV.out.alloc _).grown hg9 (Own.apart HV.out HOa.out (by decide)))
             have HY9 := Lib.hid Y9; have HO9 := Lib.hid ho9
             obtain ⟨Y9l, Y9a, Y9b, -, Y9fa, Y9fb, -⟩ := Y9.facts3
             clear Y9 ho9 hg9 hat9)
          go_roundw
          case rel =>
            have hsub : (Value.slice A9 (k + 1) c9).ownBlock ≠ some g7 := fun e => by have := (HO9.out.lt _ e).1; omega
            refine ⟨k + 1, A9, c9, ol ++ [(mvAr d t x, (⟨Av, V.length, cv⟩ : SV))], by omega, by go_num, by have h := Blk.set_ HY9.out 1 (.slice A9 (k + 1) c9); simpa using h, HN9.out.far (p := ⟨g7, 1, none⟩) (fun e => by have := (HN9.out.lt _ e).1; simp at this; omega) _, HO9.out.far (p := ⟨g7, 1, none⟩) hsub _, ?_, ?_, HB9.out.setCell (p := ⟨g7, 1, none⟩) (by simp) _⟩
            · rw [List.map_append, Hol.out, List.take_succ_eq_append_getElem hlt, List.map_append, List.map_singleton, List.map_singleton, HX.out]
            · intro y hy
              rcases List.mem_append.1 hy with hy | hy
              · exact (HV9.out y hy).far (p := ⟨g7, 1, none⟩) (Own.ne_blk (HV9.out y hy) HY9.out (by decide)) _
              · rw [List.mem_singleton] at hy
                subst hy
                have h := (HZ9.out.mono_base (Nat.zero_le _)).far (p := ⟨g7, 1, none⟩) (Own.ne_blk HZ9.out HY9.out (by decide)) (.slice A9 (k + 1) c9)
                show Own _ 0 _ 2 ptC _ (x.via.map (mvPt d t))
                rw [HVV.out]
                exact h
          case measure => simp [intOf]; omega
end Go.Proofs.Ytibchmofckhofaa
