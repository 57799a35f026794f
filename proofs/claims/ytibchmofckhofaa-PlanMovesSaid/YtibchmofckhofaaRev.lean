/- mapsheetsref14.Reversed. -/
import Derived.Test.YtibchmofckhofaaArcs2
import Derived.Test.YtibchmofckhofaaPRev
import Derived.Test.YtibchmofckhofaaEx
set_option linter.unusedSimpArgs false
set_option linter.unusedVariables false
namespace Go.Proofs.Ytibchmofckhofaa
open Go.RowKit

/-- What gives a plan of the call's own. -/
def RetPlan (w : World) (p : Pl) (e : Ending) (w' : World) : Prop := ∃ v, e = .returned v ∧ Below w.heap.size w w' ∧ PlV w' v p

theorem Row.as_ {w : World} {A : Option Addr} {l : List (Ar × SV)} (h : Row w A (l.flatMap arS)) {k : Nat} (hk : k < l.length) :
    ∃ b o, A = some ⟨b, o, none⟩ ∧ b < w.heap.size ∧ w.cell? ⟨b, o + k * 6, none⟩ = some (.int .i64 l[k].1.id) ∧ w.cell? ⟨b, o + k * 6 + 1, none⟩ = some (.int .i64 l[k].1.fr) ∧ w.cell? ⟨b, o + k * 6 + 2, none⟩ = some (.int .i64 l[k].1.dst) ∧
      w.cell? ⟨b, o + k * 6 + 3, none⟩ = some (.slice l[k].2.a l[k].2.n l[k].2.c) ∧ w.cell? ⟨b, o + k * 6 + 4, none⟩ = some (.int .i64 l[k].1.left) ∧ w.cell? ⟨b, o + k * 6 + 5, none⟩ = some (.int .i64 l[k].1.right) := by
  obtain ⟨b, o, hA, hb, hc⟩ := h.at_ (n := 6) (fun _ => rfl) hk (by omega)
  exact ⟨b, o, hA, hb, hc 0 _ rfl, hc 1 _ rfl, hc 2 _ rfl, hc 3 _ rfl, hc 4 _ rfl, hc 5 _ rfl⟩
theorem Own.belowB {α : Type} {w w' : World} {base B : Nat} {e : TypeId} {size : Nat} {f : α → List Value} {v : Value} {l : List α} (h : Own w base e size f v l) (hb : Below B w w') (hr : ∀ g, v.ownBlock = some g → g < B) : Own w' base e size f v l := by
  obtain ⟨h1, h2⟩ := h
  refine ⟨h1, ?_⟩
  rcases h2 with h2 | ⟨g, cap, cur, hv, hg, hh, r⟩
  · exact .inl h2
  · subst hv
    exact .inr ⟨g, cap, cur, rfl, hg, (hb.block g (hr g rfl)).trans hh, r⟩
/-- A row of the call's own that is not empty: its block. -/
theorem Own.form {α : Type} {w : World} {base : Nat} {e : TypeId} {size : Nat} {f : α → List Value} {v : Value} {l : List α} (h : Own w base e size f v l) (hl : 0 < l.length) : ∃ g c, v = .slice (some ⟨g, 0, none⟩) l.length c ∧ base ≤ g ∧ g < w.heap.size ∧ l.length ≤ c ∧ c ≤ maxLen ∧ (∃ cur, Blk w g e cur ∧ cur.size = c * size) := by
  rcases h.2 with ⟨_, h0⟩ | ⟨g, cap, cur, hv, hg, hh, hnc, hcm, hcs, _⟩
  · omega
  · exact ⟨g, cap, hv, hg, Blk.lt hh, hnc, hcm, cur, hh, hcs⟩

set_option maxRecDepth 100000 in
set_option maxHeartbeats 4000000 in
theorem Reversed_spec (v : Value) (p : Pl) (i : Nat) (w : World) (h : PlV w v p) (hi : i < p.arcs.length) (hl : p.arcs.length ≤ 1000) (hvl : ∀ a ∈ p.arcs, a.via.length ≤ 1000) :
    Calls Try.prog 25 #[v, .int .i64 i] w (RetPlan w (revP p i hi)) := by
  obtain ⟨vn, _, vf, al, rfl, hpa, hN, ⟨⟨Aa, ca, rfl, ha1, ha2, hRa⟩, hV⟩, hF⟩ := h
  obtain ⟨bl, rfl⟩ := hV.sv
  have hpl : p.arcs.length = bl.length := by rw [hpa, List.length_map, List.length_map]
  rw [List.length_map] at ha1
  unfold maxLen at ha2
  rw [arS_flat] at hRa
  have hib : i < bl.length := by omega
  have hbl : bl.length ≤ 1000 := by omega
  have hVk : ∀ k (hk : k < bl.length), Pts w (.slice bl[k].2.a bl[k].2.n bl[k].2.c) bl[k].1.via := fun k hk => by
    have := hV k (by simpa using hk)
    simpa [svA] using this
  have hvk : ∀ k (hk : k < bl.length), bl[k].1.via.length ≤ 1000 := fun k hk => hvl _ (by rw [hpa]; exact List.mem_map.2 ⟨svA bl[k], List.mem_map_of_mem (List.getElem_mem hk), rfl⟩)
  have hres : (revP p i hi).arcs = (bl.map (·.1)).set i (revA bl[i].1) := by
    have e1 : p.arcs = bl.map (·.1) := by rw [hpa, List.map_map]; rfl
    show p.arcs.set i (revA p.arcs[i]) = _
    simp only [e1]
    simp
  have HN := Lib.hid hN; have HF := Lib.hid hF
  obtain ⟨An, cn, rfl, -⟩ := hN
  obtain ⟨Af, cf, rfl, -⟩ := hF
  have HVk := Lib.hid hVk; have Hvk := Lib.hid hvk
  have Hres := Lib.hid hres
  have HRa : Hid (Sl w (.slice Aa bl.length ca) bl.length (bl.flatMap arS)) := Lib.hid ⟨_, _, rfl, ha1, by unfold maxLen; exact ha2, hRa⟩
  rw [List.length_map]
  obtain ⟨sa, sc, hsv, hsn1, hsn2, hsR⟩ := hVk i hib
  injection hsv with e1 e2 e3
  unfold maxLen at hsn2
  have hsn3 := hvk i hib
  have HSv := Lib.hid (⟨e1, e2, e3⟩ : bl[i].2.a = sa ∧ bl[i].2.n = bl[i].1.via.length ∧ bl[i].2.c = sc)
  have HsR := Lib.hid hsR
  clear hV hVk hvk hres hRa hpa e1 e2 e3 hsR
  go_enter Try.func25, Try.ntmps25
  go_upto_region 2 with
    (at_builtin
     refine wpList_appl _ rfl (.tmp 8) (.tmp 10) _ rfl (base := w.heap.size + 1 + 1) elem_ar arS_len arS_one rfl (Own.lit _ _ _ _ arS [] _ 0 _ (by simp) rfl (by simp) (le_maxLen (by omega)) rfl rfl) rfl (l2 := bl) (Sl.mono HRa.out (bA (bA (bA (bR w) _) _) _)) (by simp only [List.length_nil]; omega) (by simp only [List.length_nil]; omega) (by simp) ?_
     intro v5 w5 ho5 hg5 hat5)
  have hT2 : Blk w5 w.heap.size 26 #[.slice An p.nodes.length cn, .slice Aa bl.length ca, .slice Af p.faces.length cf] := by
    refine Blk.grown (Blk.alloc (Blk.alloc (Blk.made rfl _ _) _) _) hg5 (fun e => ?_)
    have h := Option.some.inj e
    simp at h
    try omega
  have hT4 : Blk w5 (w.heap.size + 1) 26 #[.slice none 0 0, .slice none 0 0, .slice none 0 0] := by
    refine Blk.grown (Blk.alloc (Blk.made (by simp) _ _) _) hg5 (fun e => ?_)
    have h := Option.some.inj e
    simp at h
    try omega
  have hB5 : Below w.heap.size w w5 := bG (bA (bA (bA (bR w) _) _) _) hg5 (fun g hg => by have h := Option.some.inj hg; simp at h; omega)
  have hsz5 := hg5.size
  simp only [World.size_alloc] at hsz5
  replace ho5 : Own w5 (w.heap.size + 1 + 1) 37 6 arS v5 bl := ho5
  obtain ⟨g5, c5, rfl, hg5b, hg5l, hn5, hm5, hb5⟩ := Own.form ho5 (by omega)
  unfold maxLen at hm5
  have HO5 := Lib.hid ho5
  obtain ⟨A5, C5, he5, -, -, hR5⟩ := Own.sl ho5
  injection he5 with e1 e2 e3
  subst e1
  clear e2 e3 ho5 hg5 hat5 hb5
  obtain ⟨b, o, hbo, hlb, c0, c1, c2, c3, c4, c5'⟩ := hR5.as_ hib
  simp only [Option.some.injEq, Addr.mk.injEq, and_true] at hbo
  obtain ⟨rfl, rfl⟩ := hbo
  simp only [Nat.zero_add] at c0 c1 c2 c3 c4 c5'
  have HB5 := Lib.hid hB5
  have HT2 := Lib.hid hT2; have HT4 := Lib.hid hT4
  clear hB5 hR5 hT2 hT4
  obtain ⟨g6, hg6⟩ : ∃ g6, g6 = w5.heap.size := ⟨_, rfl⟩
  obtain ⟨e1, e2, e3⟩ := HSv.out
  rw [e1, e2, e3] at c3
  clear e1 e2 e3
  generalize hx : bl[i].1 = x at *
  have HX := Lib.hid hx
  clear hx
  generalize hVV : x.via = V at *
  have HVV := Lib.hid hVV
  clear hVV
  go_upto_region 4 with fail
  rw [← hg6]
  obtain ⟨W6, hW6⟩ : ∃ W6 : World, W6 = w5.alloc (.cells #[.int .i64 x.id, .int .i64 x.dst, .int .i64 x.fr, .slice none 0 0, .int .i64 x.right, .int .i64 x.left] 37) := ⟨_, rfl⟩
  have hA6 : Below w5.heap.size w5 W6 := by rw [hW6]; exact bA (bR w5) _
  have hs6 : W6.heap.size = g6 + 1 := by rw [hW6, hg6]; simp
  have X6 : Blk W6 g6 37 #[.int .i64 x.id, .int .i64 x.dst, .int .i64 x.fr, .slice none 0 0, .int .i64 x.right, .int .i64 x.left] := by rw [hW6, hg6]; exact Blk.made rfl _ _
  have O6 := HO5.out.keep hA6
  have hB6 : Below w.heap.size w W6 := bT HB5.out hA6
  have hg56 : g5 < g6 := by omega
  have hg6w : w.heap.size + 2 < g6 := by omega
  rw [← hW6]
  have HX6 := Lib.hid X6; have HO6 := Lib.hid O6; have HB6 := Lib.hid hB6
  replace HT2 := Lib.hid (HT2.out.keep hA6); replace HT4 := Lib.hid (HT4.out.keep hA6)
  have HS6 := Lib.hid hs6
  clear X6 O6 hB6 hs6 hW6 hA6 hg6 c0 c1 c2 c3 c4 c5' hlb HO5 HB5
  obtain ⟨A5, C5, he5, -, -, hR6⟩ := Own.sl HO6.out
  injection he5 with e1 e2 e3
  subst e1
  clear e2 e3
  have HR6 := Lib.hid hR6
  obtain ⟨b, o, hbo, hlb, c0, c1, c2, c3, c4, c5'⟩ := hR6.as_ hib
  simp only [Option.some.injEq, Addr.mk.injEq, and_true] at hbo
  obtain ⟨rfl, rfl⟩ := hbo
  simp only [Nat.zero_add] at c0 c1 c2 c3 c4 c5'
  obtain ⟨e1, e2, e3⟩ := HSv.out
  rw [e1, e2, e3] at c3
  clear e1 e2 e3 hR6
  go_wp2_with fail
  clear c0 c1 c2 c3 c4 c5' hlb
  go_loopw [7] (fun u wr => ∃ (k : Nat) (A : Option Addr) (c : Nat), k ≤ V.length ∧ u = .int .i64 ((k : Int) - 1) ∧ Blk wr g6 37 #[.int .i64 x.id, .int .i64 x.dst, .int .i64 x.fr, .slice A (V.length - k) c, .int .i64 x.right, .int .i64 x.left] ∧ Own wr (g6 + 1) 30 2 ptC (.slice A (V.length - k) c) (V.drop k).reverse ∧ Below g6 W6 wr) (fun u _ => (intOf u + 1).toNat)
  case atStart => exact ⟨V.length, none, 0, Nat.le_refl _, rfl, by rw [Nat.sub_self]; exact HX6.out, by rw [Nat.sub_self, List.drop_length]; exact Own.nil _ _ _ _ _, Below.refl _ _⟩
  case round =>
    obtain ⟨k, A, c, hk, rfl, hx6, ho6, hb⟩ := hrel
    have Hb := Lib.hid hb
    have hsz := hb.size
    have hs6 := HS6.out
    have Hx6 := Lib.hid hx6
    have Ho6 := Lib.hid ho6
    have HOa := Lib.hid (show Own wr (w.heap.size + 1 + 1) 37 6 arS (.slice (some ⟨g5, 0, none⟩) bl.length c5) bl from HO6.out.belowB hb (fun g hg => by have h := Option.some.inj hg; change g5 = g at h; omega))
    have Bw : Below w.heap.size w wr := HB6.out.trans (hb.mono (by omega))
    have HBw := Lib.hid Bw
    clear hb Bw hx6 ho6
    rcases k with _ | m
    case zero =>
      have hR6 := HOa.out.sl
      obtain ⟨A5, C5, he5, -, -, hR6⟩ := hR6
      injection he5 with e1 e2 e3
      subst e1
      clear e2 e3
      obtain ⟨b, o, hbo, hlb, c0, c1, c2, c3, c4, c5'⟩ := hR6.as_ hib
      simp only [Option.some.injEq, Addr.mk.injEq, and_true] at hbo
      obtain ⟨rfl, rfl⟩ := hbo
      simp only [Nat.zero_add] at c0 c1 c2 c3 c4 c5'
      obtain ⟨gq, cq, hvq, -, -, -, -, cur, hcur, -⟩ := Own.form HOa.out (by omega)
      injection hvq with e1 e2 e3
      injection e1 with e1
      injection e1 with e1 _ _
      subst e1
      have hfz : ∀ j, wr.frozen? ⟨g5, j, none⟩ = false := fun j => Blk.frozen hcur j
      have hf0 := hfz (i * 6); have hf1 := hfz (i * 6 + 1); have hf2 := hfz (i * 6 + 2); have hf3 := hfz (i * 6 + 3); have hf4 := hfz (i * 6 + 4); have hf5 := hfz (i * 6 + 5)
      clear e2 e3 hR6 hfz hcur
      have X6 := Hx6.out
      rw [Nat.sub_zero] at X6
      have T2 := HT2.out.below Hb.out (by omega)
      have T4 := HT4.out.below Hb.out (by omega)
      try clear X6l
      try clear X6a
      try clear X6b
      try clear X6c
      try clear X6d
      try clear X6e
      try clear X6f
      try clear X6fa
      try clear X6fb
      try clear X6fc
      try clear X6fd
      try clear X6fe
      try clear X6ff
      obtain ⟨X6l, X6a, X6b, X6c, X6d, X6e, X6f, -, -, -, -, -, -⟩ := X6.facts6
      try clear T2l
      try clear T2a
      try clear T2b
      try clear T2c
      try clear T2fa
      try clear T2fb
      try clear T2fc
      obtain ⟨T2l, T2a, T2b, T2c, T2fa, T2fb, T2fc⟩ := T2.facts3
      try clear T4l
      try clear T4a
      try clear T4b
      try clear T4c
      try clear T4fa
      try clear T4fb
      try clear T4fc
      obtain ⟨T4l, T4a, T4b, T4c, T4fa, T4fb, T4fc⟩ := T4.facts3
      have n1 : ¬ g5 = w.heap.size := by omega
      have n2 : ¬ g5 = w.heap.size + 1 := by omega
      have n3 : ¬ w.heap.size = g5 := by omega
      have n4 : ¬ w.heap.size + 1 = g5 := by omega
      have n5 : ¬ g6 = g5 := by omega
      go_wp2_with fail
      have Bf : Below w.heap.size w ((((((((((wr.setCell ⟨g5, i * 6, none⟩ (.int .i64 x.id)).setCell ⟨g5, i * 6 + 1, none⟩ (.int .i64 x.dst)).setCell ⟨g5, i * 6 + 2, none⟩ (.int .i64 x.fr)).setCell ⟨g5, i * 6 + 3, none⟩ (.slice A V.length c)).setCell ⟨g5, i * 6 + 4, none⟩ (.int .i64 x.right)).setCell ⟨g5, i * 6 + 5, none⟩ (.int .i64 x.left)).setCell ⟨w.heap.size, 1, none⟩ (.slice (some ⟨g5, 0, none⟩) bl.length c5)).setCell ⟨w.heap.size + 1, 0, none⟩ (.slice An p.nodes.length cn)).setCell ⟨w.heap.size + 1, 1, none⟩ (.slice (some ⟨g5, 0, none⟩) bl.length c5)).setCell ⟨w.heap.size + 1, 2, none⟩ (.slice Af p.faces.length cf)) :=
        bS (bS (bS (bS (bS (bS (bS (bS (bS (bS HBw.out (p := ⟨g5, _, none⟩) (by simp; omega) _) (p := ⟨g5, _, none⟩) (by simp; omega) _) (p := ⟨g5, _, none⟩) (by simp; omega) _) (p := ⟨g5, _, none⟩) (by simp; omega) _) (p := ⟨g5, _, none⟩) (by simp; omega) _) (p := ⟨g5, _, none⟩) (by simp; omega) _) (p := ⟨w.heap.size, _, none⟩) (by simp) _) (p := ⟨w.heap.size + 1, _, none⟩) (by simp) _) (p := ⟨w.heap.size + 1, _, none⟩) (by simp) _) (p := ⟨w.heap.size + 1, _, none⟩) (by simp) _
      refine res_cell (t := 26) (g := w.heap.size + 1) (cs := #[.slice An p.nodes.length cn, .slice (some ⟨g5, 0, none⟩) bl.length c5, .slice Af p.faces.length cf]) rfl struct_pl rfl rfl ?_ ⟨_, rfl, Bf, ?_⟩
      · have h := T4.far (p := ⟨g5, i * 6, none⟩) n4 (.int .i64 x.id)
        have h := h.far (p := ⟨g5, i * 6 + 1, none⟩) n4 (.int .i64 x.dst)
        have h := h.far (p := ⟨g5, i * 6 + 2, none⟩) n4 (.int .i64 x.fr)
        have h := h.far (p := ⟨g5, i * 6 + 3, none⟩) n4 (.slice A V.length c)
        have h := h.far (p := ⟨g5, i * 6 + 4, none⟩) n4 (.int .i64 x.right)
        have h := h.far (p := ⟨g5, i * 6 + 5, none⟩) n4 (.int .i64 x.left)
        have h := h.far (p := ⟨w.heap.size, 1, none⟩) (by simp) (.slice (some ⟨g5, 0, none⟩) bl.length c5)
        exact Blk.put3 h
      · have ho := Own.set6 (i := i) HOa.out hib (revA x, ⟨A, V.length, c⟩)
        have ho2 := (((ho.far (p := ⟨w.heap.size, 1, none⟩) (fun e => by have h := Option.some.inj e; exact n1 h) (.slice (some ⟨g5, 0, none⟩) bl.length c5)).far (p := ⟨w.heap.size + 1, 0, none⟩) (fun e => by have h := Option.some.inj e; exact n2 h) (.slice An p.nodes.length cn)).far (p := ⟨w.heap.size + 1, 1, none⟩) (fun e => by have h := Option.some.inj e; exact n2 h) (.slice (some ⟨g5, 0, none⟩) bl.length c5)).far (p := ⟨w.heap.size + 1, 2, none⟩) (fun e => by have h := Option.some.inj e; exact n2 h) (.slice Af p.faces.length cf)
        have hsl := Own.sl ho2
        refine PlV.blocks (al := (bl.set i (revA x, ⟨A, V.length, c⟩)).map svA) ?_ (HN.out.mono Bf) ?_ ?_ (HF.out.mono Bf)
        · rw [Hres.out, List.map_map, List.map_set]
          rfl
        · rw [arS_flat, List.length_map]
          exact hsl
        · intro k hk
          rw [List.length_map, List.length_set] at hk
          simp only [List.getElem_map, List.getElem_set]
          by_cases e : i = k
          · rw [if_pos e]
            have hne : ∀ (g : Nat), g < g6 + 1 → (Value.slice A (V.length - 0) c).ownBlock ≠ some g := fun g hg e => by have := (Ho6.out.lt g e).1; omega
            have h := Ho6.out
            replace h := h.far (p := ⟨g5, i * 6, none⟩) (hne _ (by simp; omega)) (.int .i64 x.id)
            replace h := h.far (p := ⟨g5, i * 6 + 1, none⟩) (hne _ (by simp; omega)) (.int .i64 x.dst)
            replace h := h.far (p := ⟨g5, i * 6 + 2, none⟩) (hne _ (by simp; omega)) (.int .i64 x.fr)
            replace h := h.far (p := ⟨g5, i * 6 + 3, none⟩) (hne _ (by simp; omega)) (.slice A V.length c)
            replace h := h.far (p := ⟨g5, i * 6 + 4, none⟩) (hne _ (by simp; omega)) (.int .i64 x.right)
            replace h := h.far (p := ⟨g5, i * 6 + 5, none⟩) (hne _ (by simp; omega)) (.int .i64 x.left)
            replace h := h.far (p := ⟨w.heap.size, 1, none⟩) (hne _ (by simp; omega)) (.slice (some ⟨g5, 0, none⟩) bl.length c5)
            replace h := h.far (p := ⟨w.heap.size + 1, 0, none⟩) (hne _ (by simp; omega)) (.slice An p.nodes.length cn)
            replace h := h.far (p := ⟨w.heap.size + 1, 1, none⟩) (hne _ (by simp; omega)) (.slice (some ⟨g5, 0, none⟩) bl.length c5)
            replace h := h.far (p := ⟨w.heap.size + 1, 2, none⟩) (hne _ (by simp; omega)) (.slice Af p.faces.length cf)
            have hv := Own.sl h
            rw [List.drop_zero] at hv
            show Pts _ (.slice A V.length c) (revA x).via
            unfold revA Pts
            rw [HVV.out]
            rw [Nat.sub_zero] at hv
            exact hv
          · rw [if_neg e]
            exact (HVk.out k hk).mono Bf
    case succ =>
      have hmV : m < V.length := by omega
      have hm1 : (((m + 1 : Nat) : Int) - 1) = (m : Int) := by omega
      rw [hm1]
      clear hm1
      have hR6 := HOa.out.sl
      obtain ⟨A5, C5, he5, -, -, hR6⟩ := hR6
      injection he5 with e1 e2 e3
      subst e1
      clear e2 e3
      obtain ⟨b, o, hbo, hlb, c0, c1, c2, c3, c4, c5'⟩ := hR6.as_ hib
      simp only [Option.some.injEq, Addr.mk.injEq, and_true] at hbo
      obtain ⟨rfl, rfl⟩ := hbo
      simp only [Nat.zero_add] at c0 c1 c2 c3 c4 c5'
      obtain ⟨e1, e2, e3⟩ := HSv.out
      rw [e1, e2, e3] at c3
      clear e1 e2 e3 hR6 c0 c1 c2 c4 c5'
      obtain ⟨bv, ov, rfl, hlv, d0', d1'⟩ := HsR.out.pt hmV
      have d0 := keepc HBw.out d0'
      have d1 := keepc HBw.out d1'
      have hlv6 : bv < g6 := by omega
      clear d0' d1'
      have X6 := Hx6.out
      try clear X6l
      try clear X6a
      try clear X6b
      try clear X6c
      try clear X6d
      try clear X6e
      try clear X6f
      try clear X6fa
      try clear X6fb
      try clear X6fc
      try clear X6fd
      try clear X6fe
      try clear X6ff
      obtain ⟨X6l, X6a, X6b, X6c, X6d, X6e, X6f, X6fa, X6fb, X6fc, X6fd, X6fe, X6ff⟩ := X6.facts6
      have q1 : 0 ≤ (m : Int) := by omega
      have q2 : (m : Int) < V.length := by omega
      have q3 : (m : Int).toNat = m := by omega
      have hnew := Lib.hid (show (V.drop (m + 1)).reverse ++ [V[m]] = (V.drop m).reverse by rw [← List.reverse_cons, List.drop_eq_getElem_cons hmV])
      have hlen := Lib.hid (show (V.drop (m + 1)).reverse.length = V.length - (m + 1) by simp)
      have hlen' := Lib.hid (show (V.drop m).reverse.length = V.length - m by simp)
      go_upto_region 7 with fail
      have hg6r : g6 < wr.heap.size := X6l
      refine rg_start (SinceB (g6) wr) (.take 0 1 (.take 2 5 (.take 3 13 (.take 4 29 (.take 5 61 (.take 6 125 (.take 7 253 (.take 8 509 (.take 9 1021 (.two 1 1023 (.call 10 2047 (.call 11 4095 (.take 12 8191 (.call 13 16383 (.done))))) 10 2045 (.call 1 2047 (.call 11 4095 (.take 12 8191 (.call 13 16383 (.done))))))))))))))) (by kernel_rfl) (Below.drew (Below.refl _ _)) (by kernel_rfl) (by kernel_rfl) (Nat.le_of_ble_eq_true (by kernel_rfl)) ?_
      intro opsR QR Hops HQrg hS
      refine rg_take (i := 0) (get_of Hops rfl) hS ?_
      apply Exists.intro
      apply And.intro
      · refine .inl ⟨(wanted_plain rfl), fun wq hq => ?_⟩
        clear hq
        go_simp
        try rfl
      try simp only [Act.put, List.setIfInBounds_toArray, List.set_cons_zero, List.set_cons_succ]
      refine rg_take (i := 2) (get_of Hops rfl) hS ?_
      apply Exists.intro
      apply And.intro
      · refine .inl ⟨(wanted_plain rfl), fun wq hq => ?_⟩
        clear hq
        go_simp
        try rfl
      try simp only [Act.put, List.setIfInBounds_toArray, List.set_cons_zero, List.set_cons_succ]
      refine rg_take (i := 3) (get_of Hops rfl) hS ?_
      apply Exists.intro
      apply And.intro
      · refine .inl ⟨(wanted_plain rfl), fun wq hq => ?_⟩
        clear hq
        go_simp
        try rfl
      try simp only [Act.put, List.setIfInBounds_toArray, List.set_cons_zero, List.set_cons_succ]
      refine rg_take (i := 4) (get_of Hops rfl) hS ?_
      apply Exists.intro
      apply And.intro
      · refine .inl ⟨(wanted_plain rfl), fun wq hq => ?_⟩
        clear hq
        go_simp
        try rfl
      try simp only [Act.put, List.setIfInBounds_toArray, List.set_cons_zero, List.set_cons_succ]
      refine rg_take (i := 5) (get_of Hops rfl) hS ?_
      apply Exists.intro
      apply And.intro
      · refine .inl ⟨(wanted_plain rfl), fun wq hq => ?_⟩
        clear hq
        go_simp
        try rfl
      try simp only [Act.put, List.setIfInBounds_toArray, List.set_cons_zero, List.set_cons_succ]
      refine rg_take (i := 6) (get_of Hops rfl) hS ?_
      apply Exists.intro
      apply And.intro
      · refine .inl ⟨(wanted_plain rfl), fun wq hq => ?_⟩
        have hq' : Below (g6) wr wq := hq
        obtain ⟨hqc, -⟩ := bcellB hq'
        clear hq hq'
        go_simp
        try rfl
      try simp only [Act.put, List.setIfInBounds_toArray, List.set_cons_zero, List.set_cons_succ]
      refine rg_take (i := 7) (get_of Hops rfl) hS ?_
      apply Exists.intro
      apply And.intro
      · refine .inl ⟨(wanted_plain rfl), fun wq hq => ?_⟩
        clear hq
        go_simp
        try rfl
      try simp only [Act.put, List.setIfInBounds_toArray, List.set_cons_zero, List.set_cons_succ]
      refine rg_take (i := 8) (get_of Hops rfl) hS ?_
      apply Exists.intro
      apply And.intro
      · refine .inl ⟨(wanted_plain rfl), fun wq hq => ?_⟩
        clear hq
        go_simp
        try rfl
      try simp only [Act.put, List.setIfInBounds_toArray, List.set_cons_zero, List.set_cons_succ]
      refine rg_take (i := 9) (get_of Hops rfl) hS ?_
      apply Exists.intro
      apply And.intro
      · refine .inl ⟨(wanted_plain rfl), fun wq hq => ?_⟩
        have hq' : Below (g6) wr wq := hq
        obtain ⟨hqc, -⟩ := bcellB hq'
        clear hq hq'
        go_simp
        try rfl
      try simp only [Act.put, List.setIfInBounds_toArray, List.set_cons_zero, List.set_cons_succ]
      refine rg_two (i := 1) (j := 10) (get_of Hops rfl) (get_of Hops rfl) (fun K hK => ?_) (fun K hK => ?_)
      -- operation 1 first
      ·
        have HSrg := Lib.hid hS; clear hS
        refine rg_run (wanted_plain rfl) ?_
        go_simp
        refine hK.out _ _ HSrg.out (fun hS => ?_)
        clear hK K HSrg
        try simp only [Act.put, List.setIfInBounds_toArray, List.set_cons_zero, List.set_cons_succ]
        refine rg_call (i := 10) (get_of Hops rfl) (fun K hK => ?_)
        have HSrg := Lib.hid hS; clear hS
        refine rg_run (wanted_plain rfl) ?_
        go_simp
        refine hK.out _ _ (bAB (by omega) HSrg.out _) (fun hS => ?_)
        clear hK K HSrg
        try simp only [Act.put, List.setIfInBounds_toArray, List.set_cons_zero, List.set_cons_succ]
        refine rg_call (i := 11) (get_of Hops rfl) (fun K hK => ?_)
        have HSrg := Lib.hid hS; clear hS
        refine rg_run (wanted_plain rfl) ?_
        refine wp_appl (.tmp 41) (.tmp 50) _ rfl (base := g6 + 1) (l := (V.drop (m + 1)).reverse) (l2 := [V[m]]) elem_pt ptC_len ptC_one rfl (Own.alloc Ho6.out _) rfl (Pts.one (x := V[m]) (Blk.made rfl _ _)) (by have := hlen.out; simp only [List.length_cons, List.length_nil]; omega) (by have := hlen.out; simp only [List.length_cons, List.length_nil]; omega) (by simp; omega) ?_
        intro v9 wn hon hgn hatn
        rw [hnew.out] at hon
        obtain ⟨A9, c9, hv9, -⟩ := Own.sl hon
        rw [hlen'.out] at hv9
        subst hv9
        have X6n := Blk.grown (Blk.alloc (Blk.drew Hx6.out) _) hgn (fun e => by have := (Ho6.out.lt g6 e.symm).1; omega)
        obtain ⟨-, -, -, -, n3, -, -, -, -, -, nf3, -, -⟩ := X6n.facts6
        have HX6n := Lib.hid X6n
        have Hon := Lib.hid hon
        clear X6n hon
        have hS : SinceB g6 wr wn := Below.grown (Below.alloc (Below.drew (Below.refl _ _)) (by simp; omega) _) hgn (by simp; omega) (fun g hg => by have := (Ho6.out.lt g hg).1; omega)
        clear HSrg
        refine hK.out _ _ hS (fun _ => ?_)
        clear hK K
        try simp only [Act.put, List.setIfInBounds_toArray, List.set_cons_zero, List.set_cons_succ]
        refine rg_take (i := 12) (get_of Hops rfl) hS ?_
        apply Exists.intro
        apply And.intro
        · refine .inl ⟨(wanted_plain rfl), fun wq hq => ?_⟩
          clear hq
          go_simp
          try rfl
        try simp only [Act.put, List.setIfInBounds_toArray, List.set_cons_zero, List.set_cons_succ]
        refine rg_call (i := 13) (get_of Hops rfl) (fun K hK => ?_)
        have HSrg := Lib.hid hS; clear hS
        refine rg_run (wanted_plain rfl) ?_
        go_simp
        refine hK.out _ _ (bSB HSrg.out ?_ _) ?_
        · omega
        intro hS
        clear hK K HSrg
        try simp only [Act.put, List.setIfInBounds_toArray, List.set_cons_zero, List.set_cons_succ]
        refine rg_done ?_
        refine HQrg.down _ _ ?_
        have hB : Below (g6) wr _ := hS
        clear hS HQrg Hops
        go_wp2_with fail
        go_roundw
        case rel => exact ⟨m, A9, c9, by omega, rfl, by have h := Blk.set_ HX6n.out 3 (.slice A9 (V.length - m) c9); simpa using h, Hon.out.far (p := ⟨g6, 3, none⟩) (fun e => by have := (Hon.out.lt g6 e).1; omega) _, Hb.out.trans hB⟩
        case measure => simp [intOf]
      -- operation 10 first
      ·
        have HSrg := Lib.hid hS; clear hS
        refine rg_run (wanted_plain rfl) ?_
        go_simp
        refine hK.out _ _ (bAB (by omega) HSrg.out _) (fun hS => ?_)
        clear hK K HSrg
        try simp only [Act.put, List.setIfInBounds_toArray, List.set_cons_zero, List.set_cons_succ]
        refine rg_call (i := 1) (get_of Hops rfl) (fun K hK => ?_)
        have HSrg := Lib.hid hS; clear hS
        refine rg_run (wanted_plain rfl) ?_
        go_simp
        refine hK.out _ _ HSrg.out (fun hS => ?_)
        clear hK K HSrg
        try simp only [Act.put, List.setIfInBounds_toArray, List.set_cons_zero, List.set_cons_succ]
        refine rg_call (i := 11) (get_of Hops rfl) (fun K hK => ?_)
        have HSrg := Lib.hid hS; clear hS
        refine rg_run (wanted_plain rfl) ?_
        refine wp_appl (.tmp 41) (.tmp 50) _ rfl (base := g6 + 1) (l := (V.drop (m + 1)).reverse) (l2 := [V[m]]) elem_pt ptC_len ptC_one rfl (Own.alloc Ho6.out _) rfl (Pts.one (x := V[m]) (Blk.made rfl _ _)) (by have := hlen.out; simp only [List.length_cons, List.length_nil]; omega) (by have := hlen.out; simp only [List.length_cons, List.length_nil]; omega) (by simp; omega) ?_
        intro v9 wn hon hgn hatn
        rw [hnew.out] at hon
        obtain ⟨A9, c9, hv9, -⟩ := Own.sl hon
        rw [hlen'.out] at hv9
        subst hv9
        have X6n := Blk.grown (Blk.alloc (Blk.drew Hx6.out) _) hgn (fun e => by have := (Ho6.out.lt g6 e.symm).1; omega)
        obtain ⟨-, -, -, -, n3, -, -, -, -, -, nf3, -, -⟩ := X6n.facts6
        have HX6n := Lib.hid X6n
        have Hon := Lib.hid hon
        clear X6n hon
        have hS : SinceB g6 wr wn := Below.grown (Below.alloc (Below.drew (Below.refl _ _)) (by simp; omega) _) hgn (by simp; omega) (fun g hg => by have := (Ho6.out.lt g hg).1; omega)
        clear HSrg
        refine hK.out _ _ hS (fun _ => ?_)
        clear hK K
        try simp only [Act.put, List.setIfInBounds_toArray, List.set_cons_zero, List.set_cons_succ]
        refine rg_take (i := 12) (get_of Hops rfl) hS ?_
        apply Exists.intro
        apply And.intro
        · refine .inl ⟨(wanted_plain rfl), fun wq hq => ?_⟩
          clear hq
          go_simp
          try rfl
        try simp only [Act.put, List.setIfInBounds_toArray, List.set_cons_zero, List.set_cons_succ]
        refine rg_call (i := 13) (get_of Hops rfl) (fun K hK => ?_)
        have HSrg := Lib.hid hS; clear hS
        refine rg_run (wanted_plain rfl) ?_
        go_simp
        refine hK.out _ _ (bSB HSrg.out ?_ _) ?_
        · omega
        intro hS
        clear hK K HSrg
        try simp only [Act.put, List.setIfInBounds_toArray, List.set_cons_zero, List.set_cons_succ]
        refine rg_done ?_
        refine HQrg.down _ _ ?_
        have hB : Below (g6) wr _ := hS
        clear hS HQrg Hops
        go_wp2_with fail
        go_roundw
        case rel => exact ⟨m, A9, c9, by omega, rfl, by have h := Blk.set_ HX6n.out 3 (.slice A9 (V.length - m) c9); simpa using h, Hon.out.far (p := ⟨g6, 3, none⟩) (fun e => by have := (Hon.out.lt g6 e).1; omega) _, Hb.out.trans hB⟩
        case measure => simp [intOf]
end Go.Proofs.Ytibchmofckhofaa
