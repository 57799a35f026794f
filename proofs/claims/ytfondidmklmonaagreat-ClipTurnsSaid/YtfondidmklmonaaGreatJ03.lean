/- Finding arcs: plan.Arc, mapsheetsref14.Arc. cmp.Compare at ints. Package geom: near, twice, Twice, Side, On, before, shared, Meet: what each call returns. Package geom, on: Twice, Side, On, before, shared, Meet. Package mapsheetsref08: Near, cross, dot, On, first. cut: accepted, AtX, AtY. mapsheetsref09: AtX, turn, AtY. geom.In, ref08.In; cut: reach, place.less. cut.reach. -/
import Derived.Test.YtfondidmklmonaaGreatJ02
import Derived.Test.YtfondidmklmonaaGreatGB
import Derived.Test.YtfondidmklmonaaGreatProg
import Derived.Deep.DeepCutAuto
import Derived.Test.YtfondidmklmonaaGreatJ01
set_option linter.unusedSimpArgs false
set_option linter.unusedVariables false
namespace Go.Proofs.YtfondidmklmonaaGreat
open Go.RowKit

def findAr (l : List Ar) (id : Int) : Option Ar := l.find? (fun a => a.id == id)
def ar0 : Ar := ⟨0, 0, 0, [], 0, 0⟩
def ArRes (w : World) (r : Option Ar) (e : Ending) (w' : World) : Prop :=
 ∃ v', e = .returned (.tuple #[arV (r.getD ar0) v', .bool r.isSome]) ∧ Below w.heap.size w w' ∧ Pts w' v' (r.getD ar0).via
/-- No Via is very long. -/
def Short (p : Pl) : Prop := ∀ a ∈ p.arcs, a.via.length ≤ 1048576

theorem Sl.nil (w : World) : Sl w (.slice none 0 0) 0 [] := ⟨none, 0, rfl, Nat.le_refl _, le_maxLen (by omega), Row.nil⟩

theorem findAr_hit (al : List (Ar × Value)) (id : Int) (k : Nat) (hk : k < al.length) (h : ∀ j (hj : j < al.length), j < k → (al[j].1.id == id) = false) (he : (al[k].1.id == id) = true) :
  findAr (al.map (·.1)) id = some al[k].1 := by
 have := find_hit al (fun a => a.1.id == id) k hk h he
 rw [findAr, List.find?_map]
 show (al.find? (fun a => a.1.id == id)).map _ = _
 rw [this]
 rfl
theorem findAr_miss (al : List (Ar × Value)) (id : Int) (h : ∀ j (hj : j < al.length), (al[j].1.id == id) = false) : findAr (al.map (·.1)) id = none := by
 have := find_miss al (fun a => a.1.id == id) h
 rw [findAr, List.find?_map]
 show (al.find? (fun a => a.1.id == id)).map _ = _
 rw [this]
 rfl

set_option maxHeartbeats 4000000 in
theorem Arc_spec (v : Value) (p : Pl) (id : Int) (w : World) (h : PlV w v p) (hsh : Short p) :
  Calls Tryz.prog 90 #[v, .int .i64 id] w (ArRes w (findAr p.arcs id)) := by
 obtain ⟨vn, _, vf, al, rfl, hpa, -, ⟨⟨An, cn, rfl, hn1, hn2, hR⟩, hV⟩, -⟩ := h
 unfold maxLen at hn2
 unfold Short at hsh
 rw [hpa] at hsh ⊢
 clear hpa
 have hsh' : ∀ k (hk : k < al.length), al[k].1.via.length ≤ 1048576 := fun k hk => hsh _ (List.mem_map_of_mem (List.getElem_mem hk))
 have HV := Lib.hid hV; clear hV hsh
 have HSh := Lib.hid hsh'; clear hsh'
 go_enter Tryz.func90, Tryz.ntmps90
 go_wp2_with fail
 go_loopw [11] (fun i wr => ∃ k : Nat, k ≤ al.length ∧ i = .int .i64 k ∧ Below w.heap.size w wr ∧ Blk wr (w.heap.size + 1) 63 #[.int .i64 0, .int .i64 0, .int .i64 0, .slice none 0 0, .int .i64 0, .int .i64 0] ∧ ∀ j (hj : j < al.length), j < k → (al[j].1.id == id) = false) (fun i _ => al.length - (intOf i).toNat)
 case atStart => exact ⟨0, Nat.zero_le _, rfl, bA (bA (bR w) _) _, Blk.made (by simp) _ _, fun j _ h => by omega⟩
 case round =>
  obtain ⟨k, hk, rfl, hb, X4, hno⟩ := hrel
  have Hb := Lib.hid hb
  have Hno := Lib.hid hno
  clear hb hno
  obtain ⟨X4l, X4a, X4b, X4c, X4d, X4e, X4f, X4fa, X4fb, X4fc, X4fd, X4fe, X4ff⟩ := X4.facts6
  by_cases hlt : k < al.length
  ·
   obtain ⟨b, o, rfl, hlb, c0, c1, c2, c3, c4, c5⟩ := (hR.mono Hb.out).ar hlt
   have HR := Lib.hid hR; clear hR
   have hvk := (HV.out k hlt)
   obtain ⟨Av, cv, hv, -⟩ := hvk
   have hvk := (HV.out k hlt)
   rw [hv] at c3 hvk
   generalize hvl : al[k].1.via.length = vl at *
   have Hvl := Lib.hid hvl
   have Hvk := Lib.hid hvk; clear hvk hv hvl
   cases he : (al[k].1.id == id)
   ·
    go_wp2
    go_roundw
    case rel => exact ⟨k + 1, by omega, by go_num, bA Hb.out _, X4.alloc _, all_succ (p := fun x => (x.1.id == id) = false) Hno.out hlt he⟩
    case measure => simp [intOf]; omega
   ·
    have hf := findAr_hit al id k hlt Hno.out he
    have Hf := Lib.hid hf; clear hf
    go_wp2_with fail
    refine (Clone_pt_spec _ _ _ (Hvk.out.mono (bA Hb.out _)) (HSh.out k hlt)).mono ?_
    rintro e w1 ⟨A1, cc1, rfl, hb1, hown⟩
    have Bw : Below w.heap.size w w1 := bT (bA Hb.out _) hb1
    have X7 : Blk w1 wr.heap.size 63 #[.int .i64 al[k].1.id, .int .i64 al[k].1.fr,   .int .i64 al[k].1.dst, .slice Av vl cv, .int .i64 al[k].1.left, .int .i64 al[k].1.right] := (Blk.made rfl _ _).keep hb1
    have hw8 : w.heap.size + 1 < wr.heap.size := by omega
    have hw7 : w.heap.size + 1 ≠ wr.heap.size := by omega
    replace X4 := (X4.alloc _).keep hb1
    have hown' := hown.mono_base (b' := wr.heap.size + 1) (by simp)
    have hP := Own.sl hown
    have Hown := Lib.hid hown'
    clear hb1 c0 c1 c2 c3 c4 c5 hlb hown hown' hP
    try clear X4l
    try clear X4a
    try clear X4b
    try clear X4c
    try clear X4d
    try clear X4e
    try clear X4f
    try clear X4fa
    try clear X4fb
    try clear X4fc
    try clear X4fd
    try clear X4fe
    try clear X4ff
    obtain ⟨X4l, X4a, X4b, X4c, X4d, X4e, X4f, X4fa, X4fb, X4fc, X4fd, X4fe, X4ff⟩ := X4.facts6
    obtain ⟨X7l, X7a, X7b, X7c, X7d, X7e, X7f, X7fa, X7fb, X7fc, X7fd, X7fe, X7ff⟩ := X7.facts6
    go_wp2_with fail
    have hszr := Hb.out.size
    have ne7 : (Value.slice A1 al[k].1.via.length cc1).ownBlock ≠ some wr.heap.size := fun e => by have := (Hown.out.lt _ e).1; omega
    have ne4 : (Value.slice A1 al[k].1.via.length cc1).ownBlock ≠ some (w.heap.size + 1) := fun e => by have := (Hown.out.lt _ e).1; omega
    have HP := Own.sl (((((((Hown.out.far (p := ⟨wr.heap.size, 3, none⟩) ne7 (.slice A1 al[k].1.via.length cc1)).far (p := ⟨w.heap.size + 1, 0, none⟩) ne4 (.int .i64 al[k].1.id)).far (p := ⟨w.heap.size + 1, 1, none⟩) ne4 (.int .i64 al[k].1.fr)).far (p := ⟨w.heap.size + 1, 2, none⟩) ne4 (.int .i64 al[k].1.dst)).far (p := ⟨w.heap.size + 1, 3, none⟩) ne4 (.slice A1 al[k].1.via.length cc1)).far (p := ⟨w.heap.size + 1, 4, none⟩) ne4 (.int .i64 al[k].1.left)).far (p := ⟨w.heap.size + 1, 5, none⟩) ne4 (.int .i64 al[k].1.right))
    refine res_cell_tmp (g := w.heap.size + 1) (cs := #[.int .i64 al[k].1.id, .int .i64 al[k].1.fr, .int .i64 al[k].1.dst, .slice A1 al[k].1.via.length cc1, .int .i64 al[k].1.left, .int .i64 al[k].1.right]) rfl struct_ar rfl rfl (Blk.put6 (X4.far (p := ⟨wr.heap.size, 3, none⟩) hw7 _)) ⟨.slice A1 al[k].1.via.length cc1, by rw [Hf.out]; rfl, ?_, by rw [Hf.out]; exact HP⟩
    repeat (first | with_reducible exact bR _ | with_reducible assumption | with_reducible refine bA ?_ _ | with_reducible refine bD ?_ | with_reducible refine bN ?_ _ | ((with_reducible refine bS ?_ ?_ _); rotate_left; (simp; try omega)) | ((with_reducible refine bT ?_ ?_); rotate_left; with_reducible assumption) | with_reducible refine bT ?_ (by assumption))
  ·
   have hf := findAr_miss al id (fun j hj => Hno.out j hj (by omega))
   have Hf := Lib.hid hf; clear hf
   go_wp2
   have Bw := Hb.out
   refine res_cell_tmp (g := w.heap.size + 1) (cs := #[.int .i64 0, .int .i64 0, .int .i64 0, .slice none 0 0, .int .i64 0, .int .i64 0]) rfl struct_ar rfl rfl (Blk.put6 X4) ⟨.slice none 0 0, by rw [Hf.out]; rfl, ?_, by rw [Hf.out]; exact Sl.nil _⟩
   repeat (first | with_reducible exact bR _ | with_reducible assumption | with_reducible refine bA ?_ _ | with_reducible refine bD ?_ | with_reducible refine bN ?_ _ | ((with_reducible refine bS ?_ ?_ _); rotate_left; (simp; try omega)) | ((with_reducible refine bT ?_ ?_); rotate_left; with_reducible assumption) | with_reducible refine bT ?_ (by assumption))
end Go.Proofs.YtfondidmklmonaaGreat
namespace Go.Proofs.YtfondidmklmonaaGreat
open Go.RowKit

set_option maxHeartbeats 400000 in
theorem isNaN_int_spec (x : Int) (w : World) : Calls Tryz.prog 115 #[.int .i64 x] w fun e w' => e = .returned (.bool false) ∧ w = w' := by
 have hx : (x != x) = false := by simp
 go_enter Tryz.func115, Tryz.ntmps115
 go_wp2_with fail
 go_ret
 exact ⟨by simp, rfl⟩

def cmpI (x y : Int) : Int := if x < y then -1 else if y < x then 1 else 0
set_option maxHeartbeats 400000 in
theorem Compare_int_spec (x y : Int) (w : World) : Calls Tryz.prog 82 #[.int .i64 x, .int .i64 y] w fun e w' => e = .returned (.int .i64 (cmpI x y)) ∧ w = w' := by
 have HN := Lib.hid (fun (z : Int) (W : World) => isNaN_int_spec z W)
 obtain ⟨q, hq⟩ : ∃ q, cmpI x y = q := ⟨_, rfl⟩
 rw [hq]
 have Hq := Lib.hid hq; clear hq
 go_enter Tryz.func82, Tryz.ntmps82
 go_wp2_with fail
 refine (HN.out _ _).mono ?_
 rintro e w' ⟨rfl, rfl⟩
 go_wp2_with fail
 refine (HN.out _ _).mono ?_
 rintro e w' ⟨rfl, rfl⟩
 go_wp2_with fail
 all_goals
  go_ret
  refine ⟨ret_int ?_, rfl⟩
  rw [← Hq.out]
  unfold cmpI
  first | rw [if_pos (by assumption)] | (rw [if_neg (by assumption), if_pos (by assumption)]) | (rw [if_neg (by assumption), if_neg (by assumption)]) | (split <;> (try split) <;> omega)

end Go.Proofs.YtfondidmklmonaaGreat
namespace Go.Proofs.YtfondidmklmonaaGreat
open Go.RowKit

/-- The coordinates are at most 2^21 in size. -/
def near1 (p : Pt) : Bool := decide (-2097152 ≤ p.x) && decide (p.x ≤ 2097152) && decide (-2097152 ≤ p.y) && decide (p.y ≤ 2097152)
def nears (l : List Pt) : Bool := l.all near1
def tw (a b c : Pt) : Int := (b.x - a.x) * (c.y - a.y) - (b.y - a.y) * (c.x - a.x)

theorem near1_iff (p : Pt) : near1 p = true ↔ -2097152 ≤ p.x ∧ p.x ≤ 2097152 ∧ -2097152 ≤ p.y ∧ p.y ≤ 2097152 := by
 simp [near1, and_assoc]

theorem nears_hit (l : List Pt) (k : Nat) (hk : k < l.length) (h : near1 l[k] = false) : nears l = false := by
 unfold nears
 rw [List.all_eq_false]
 exact ⟨l[k], List.getElem_mem hk, by simp [h]⟩
theorem nears_all (l : List Pt) (h : ∀ j (hj : j < l.length), near1 l[j] = true) : nears l = true := by
 unfold nears
 rw [List.all_eq_true]
 intro x hx
 obtain ⟨i, hi, rfl⟩ := List.mem_iff_getElem.1 hx
 exact h i hi

set_option maxHeartbeats 400000 in
theorem near_spec (v : Value) (l : List Pt) (w : World) (h : Pts w v l) :
  Calls Tryz.prog 117 #[v] w fun e w' => e = .returned (.bool (nears l)) ∧ Below w.heap.size w w' := by
 obtain ⟨A, c, rfl, hn, hc, hR⟩ := h
 unfold maxLen at hc
 go_enter Tryz.func117, Tryz.ntmps117
 go_wp2_with fail
 go_loopw [7] (fun i wr => ∃ k : Nat, k ≤ l.length ∧ i = .int .i64 k ∧ Below w.heap.size w wr ∧ ∀ j (hj : j < l.length), j < k → near1 l[j] = true) (fun i _ => l.length - (intOf i).toNat)
 case atStart => exact ⟨0, Nat.zero_le _, rfl, Below.refl _ _, fun j _ h => by omega⟩
 case round =>
  obtain ⟨k, hk, rfl, hb, hno⟩ := hrel
  have Hb := Lib.hid hb
  have Hno := Lib.hid hno
  have hs := hb.size
  clear hb hno
  by_cases hlt : k < l.length
  ·
   obtain ⟨b, o, rfl, hlb, c0, c1⟩ := (hR.mono Hb.out).pt hlt
   have HR := Lib.hid hR; clear hR
   by_cases hnr : near1 l[k] = true
   ·
    have Hn := Lib.hid hnr
    obtain ⟨n1, n2, n3, n4⟩ := (near1_iff _).1 hnr
    clear hnr
    go_wp2
    go_roundw
    case rel => exact ⟨k + 1, by omega, by go_num, Hb.out.alloc hs _, all_succ (p := fun x => near1 x = true) Hno.out hlt Hn.out⟩
    case measure => simp [intOf]; omega
   ·
    have hn' : near1 l[k] = false := by simpa using hnr
    have Hf := Lib.hid (nears_hit l k hlt hn')
    clear hn'
    have Hnr := Lib.hid hnr; clear hnr
    go_wp2
    all_goals first
     | (go_ret; exact ⟨ret_bool Hf.out.symm, Hb.out.alloc hs _⟩)
     | (exfalso; exact Hnr.out ((near1_iff _).2 ⟨by omega, by omega, by omega, by omega⟩))
  ·
   go_wp2
   go_ret
   exact ⟨ret_bool (nears_all l fun j hj => Hno.out j hj (by omega)).symm, Hb.out⟩

def lim (p : Pt) : Prop := -2097152 ≤ p.x ∧ p.x ≤ 2097152 ∧ -2097152 ≤ p.y ∧ p.y ≤ 2097152

theorem mul_bd (a b m : Int) (h1 : -m ≤ a) (h2 : a ≤ m) (h3 : -m ≤ b) (h4 : b ≤ m) : -(m * m) ≤ a * b ∧ a * b ≤ m * m := by
 have hm : 0 ≤ m := by omega
 rcases Int.le_total 0 a with ha | ha <;> rcases Int.le_total 0 b with hb | hb
 · exact ⟨by have := Int.mul_nonneg ha hb; have := Int.mul_nonneg hm hm; omega, Int.mul_le_mul h2 h4 hb hm⟩
 ·
  have e : a * b = -(a * -b) := by rw [Int.mul_neg]; omega
  have h := Int.mul_le_mul h2 (show -b ≤ m by omega) (by omega) hm
  have h' := Int.mul_nonneg ha (show 0 ≤ -b by omega)
  have := Int.mul_nonneg hm hm
  omega
 ·
  have e : a * b = -(-a * b) := by rw [Int.neg_mul]; omega
  have h := Int.mul_le_mul (show -a ≤ m by omega) h4 hb hm
  have h' := Int.mul_nonneg (show 0 ≤ -a by omega) hb
  have := Int.mul_nonneg hm hm
  omega
 ·
  have e : a * b = -a * -b := by rw [Int.neg_mul_neg]
  have h := Int.mul_le_mul (show -a ≤ m by omega) (show -b ≤ m by omega) (by omega) hm
  have h' := Int.mul_nonneg (show 0 ≤ -a by omega) (show 0 ≤ -b by omega)
  have := Int.mul_nonneg hm hm
  omega

set_option maxHeartbeats 400000 in
theorem twice_spec (a b c : Pt) (w : World) (ha : lim a) (hb : lim b) (hc : lim c) :
  Calls Tryz.prog 118 #[ptV a, ptV b, ptV c] w fun e w' => e = .returned (.int .i64 (tw a b c)) ∧ Below w.heap.size w w' := by
 obtain ⟨a1, a2, a3, a4⟩ := ha
 obtain ⟨b1, b2, b3, b4⟩ := hb
 obtain ⟨c1, c2, c3, c4⟩ := hc
 obtain ⟨m1, m2⟩ := mul_bd (b.x - a.x) (c.y - a.y) 4194304 (by omega) (by omega) (by omega) (by omega)
 obtain ⟨m3, m4⟩ := mul_bd (b.y - a.y) (c.x - a.x) 4194304 (by omega) (by omega) (by omega) (by omega)
 simp only [Int.reduceMul, Int.reduceNeg] at m1 m2 m3 m4
 unfold ptV
 go_enter Tryz.func118, Tryz.ntmps118
 go_wp2
 go_ret
 exact ⟨ret_int rfl, (((Below.refl _ _).alloc (Nat.le_refl _) _).alloc (by simp) _).alloc (by simp; omega) _⟩
end Go.Proofs.YtfondidmklmonaaGreat
namespace Go.Proofs.YtfondidmklmonaaGreat
open Go.RowKit

theorem lim_of {p : Pt} (h : near1 p = true) : lim p := (near1_iff p).1 h
theorem nears3 {a b c : Pt} (h : nears [a, b, c] = true) : lim a ∧ lim b ∧ lim c := by
 simp only [nears, List.all_cons, List.all_nil, Bool.and_true, Bool.and_eq_true] at h
 exact ⟨lim_of h.1, lim_of h.2.1, lim_of h.2.2⟩
def twS (a b c : Pt) : Int := if nears [a, b, c] = true then tw a b c else 0

set_option maxHeartbeats 400000 in
theorem Twice_spec (a b c : Pt) (w : World) :
  Calls Tryz.prog 180 #[ptV a, ptV b, ptV c] w fun e w' => e = .returned (.int .i64 (twS a b c)) ∧ Below w.heap.size w w' := by
 unfold ptV
 by_cases hn : nears [a, b, c] = true
 ·
  obtain ⟨ha, hb, hc⟩ := nears3 hn
  have Ha := Lib.hid ha; have Hb := Lib.hid hb; have Hc := Lib.hid hc; clear ha hb hc
  go_enter Tryz.func180, Tryz.ntmps180
  go_wp2_with fail
  refine (near_spec _ [a, b, c] _ (Pts.lit3 (Blk.made (by simp) _ _))).mono ?_
  rintro e w1 ⟨rfl, hb1⟩
  obtain ⟨hb1c, hb1f⟩ := bcell hb1
  have hb1z := hb1.size
  try simp only [World.size_alloc, World.size_setCell, World.size_drew] at hb1z
  have hb1l0 : w.heap.size < w1.heap.size := by omega
  have hb1l1 : w.heap.size + 1 < w1.heap.size := by omega
  have hb1l2 : w.heap.size + 1 + 1 < w1.heap.size := by omega
  go_wp2_with fail
  refine (twice_spec a b c _ Ha.out Hb.out Hc.out).mono ?_
  rintro e w2 ⟨rfl, hb2⟩
  go_wp2_with fail
  go_ret
  refine ⟨ret_int (by simp [twS, hn]), ?_⟩
  repeat (first | with_reducible exact bR _ | with_reducible assumption | with_reducible refine bA ?_ _ | with_reducible refine bD ?_ | with_reducible refine bN ?_ _ | ((with_reducible refine bS ?_ ?_ _); rotate_left; (simp; try omega)) | ((with_reducible refine bT ?_ ?_); rotate_left; with_reducible assumption) | with_reducible refine bT ?_ (by assumption))
 ·
  have hn' : nears [a, b, c] = false := by simpa using hn
  clear hn
  go_enter Tryz.func180, Tryz.ntmps180
  go_wp2_with fail
  refine (near_spec _ [a, b, c] _ (Pts.lit3 (Blk.made (by simp) _ _))).mono ?_
  rintro e w1 ⟨rfl, hb1⟩
  obtain ⟨hb1c, hb1f⟩ := bcell hb1
  have hb1z := hb1.size
  try simp only [World.size_alloc, World.size_setCell, World.size_drew] at hb1z
  have hb1l0 : w.heap.size < w1.heap.size := by omega
  have hb1l1 : w.heap.size + 1 < w1.heap.size := by omega
  have hb1l2 : w.heap.size + 1 + 1 < w1.heap.size := by omega
  go_wp2_with fail
  go_ret
  refine ⟨ret_int (by simp [twS, hn']), ?_⟩
  repeat (first | with_reducible exact bR _ | with_reducible assumption | with_reducible refine bA ?_ _ | with_reducible refine bD ?_ | with_reducible refine bN ?_ _ | ((with_reducible refine bS ?_ ?_ _); rotate_left; (simp; try omega)) | ((with_reducible refine bT ?_ ?_); rotate_left; with_reducible assumption) | with_reducible refine bT ?_ (by assumption))

def sideS (a b c : Pt) : Int := if 0 < twS a b c then 1 else if twS a b c < 0 then -1 else 0

set_option maxHeartbeats 400000 in
theorem Side_spec (a b c : Pt) (w : World) :
  Calls Tryz.prog 154 #[ptV a, ptV b, ptV c] w fun e w' => e = .returned (.int .i64 (sideS a b c)) ∧ Below w.heap.size w w' := by
 have T : ∀ W, Calls Tryz.prog 180 #[ptV a, ptV b, ptV c] W _ := fun W => Twice_spec a b c W
 unfold ptV at T ⊢
 unfold sideS
 generalize twS a b c = t at *
 have HT := Lib.hid T; clear T
 go_enter Tryz.func154, Tryz.ntmps154
 go_wp2_with fail
 refine (HT.out _).mono ?_
 rintro e w1 ⟨rfl, hb1⟩
 go_wp2_with fail
 all_goals
  go_ret
  refine ⟨ret_int rfl, ?_⟩
  repeat (first | with_reducible exact bR _ | with_reducible assumption | with_reducible refine bA ?_ _ | with_reducible refine bD ?_ | with_reducible refine bN ?_ _ | ((with_reducible refine bS ?_ ?_ _); rotate_left; (simp; try omega)) | ((with_reducible refine bT ?_ ?_); rotate_left; with_reducible assumption) | with_reducible refine bT ?_ (by assumption))

def onS (a b p : Pt) : Bool := nears [a, b, p] && decide (tw a b p = 0) && decide (min a.x b.x ≤ p.x) && decide (p.x ≤ max a.x b.x) && decide (min a.y b.y ≤ p.y) && decide (p.y ≤ max a.y b.y)

set_option maxHeartbeats 1000000 in
theorem On_spec (a b p : Pt) (w : World) :
  Calls Tryz.prog 87 #[ptV a, ptV b, ptV p] w fun e w' => e = .returned (.bool (onS a b p)) ∧ Below w.heap.size w w' := by
 unfold ptV
 by_cases hn : nears [a, b, p] = true
 ·
  obtain ⟨ha, hb, hc⟩ := nears3 hn
  have T : ∀ W, Calls Tryz.prog 118 #[ptV a, ptV b, ptV p] W _ := fun W => twice_spec a b p W ha hb hc
  unfold ptV at T
  have hS : onS a b p = (decide (tw a b p = 0) && decide (min a.x b.x ≤ p.x) && decide (p.x ≤ max a.x b.x) && decide (min a.y b.y ≤ p.y) && decide (p.y ≤ max a.y b.y)) := by simp [onS, hn]
  rw [hS]
  generalize tw a b p = t at *
  have HT := Lib.hid T; clear T ha hb hc hS
  go_enter Tryz.func87, Tryz.ntmps87
  go_wp2_with fail
  refine (near_spec _ [a, b, p] _ (Pts.lit3 (Blk.made (by simp) _ _))).mono ?_
  rintro e w1 ⟨rfl, hb1⟩
  obtain ⟨hb1c, hb1f⟩ := bcell hb1
  have hb1z := hb1.size
  try simp only [World.size_alloc, World.size_setCell, World.size_drew] at hb1z
  have hb1l0 : w.heap.size < w1.heap.size := by omega
  have hb1l1 : w.heap.size + 1 < w1.heap.size := by omega
  have hb1l2 : w.heap.size + 1 + 1 < w1.heap.size := by omega
  go_wp2_with fail
  refine (HT.out _).mono ?_
  rintro e w2 ⟨rfl, hb2⟩
  obtain ⟨hb2c, hb2f⟩ := bcell hb2
  have hb2z := hb2.size
  try simp only [World.size_alloc, World.size_setCell, World.size_drew] at hb2z
  have hb2l0 : w.heap.size < w2.heap.size := by omega
  have hb2l1 : w.heap.size + 1 < w2.heap.size := by omega
  have hb2l2 : w.heap.size + 1 + 1 < w2.heap.size := by omega
  by_cases ht : t = 0
  ·
   subst ht
   go_wp2_with fail
   all_goals
    go_ret
    refine ⟨ret_bool (by rw [Bool.eq_iff_iff]; simp only [Bool.and_eq_true, decide_eq_true_eq, Bool.false_eq_true, false_iff, true_iff]; omega), ?_⟩
    repeat (first | with_reducible exact bR _ | with_reducible assumption | with_reducible refine bA ?_ _ | with_reducible refine bD ?_ | with_reducible refine bN ?_ _ | ((with_reducible refine bS ?_ ?_ _); rotate_left; (simp; try omega)) | ((with_reducible refine bT ?_ ?_); rotate_left; with_reducible assumption) | with_reducible refine bT ?_ (by assumption))
  ·
   have ht' : (t == 0) = false := by simpa using ht
   go_wp2_with fail
   go_ret
   refine ⟨ret_bool (by simp [ht]), ?_⟩
   repeat (first | with_reducible exact bR _ | with_reducible assumption | with_reducible refine bA ?_ _ | with_reducible refine bD ?_ | with_reducible refine bN ?_ _ | ((with_reducible refine bS ?_ ?_ _); rotate_left; (simp; try omega)) | ((with_reducible refine bT ?_ ?_); rotate_left; with_reducible assumption) | with_reducible refine bT ?_ (by assumption))
 ·
  have hn' : nears [a, b, p] = false := by simpa using hn
  clear hn
  go_enter Tryz.func87, Tryz.ntmps87
  go_wp2_with fail
  refine (near_spec _ [a, b, p] _ (Pts.lit3 (Blk.made (by simp) _ _))).mono ?_
  rintro e w1 ⟨rfl, hb1⟩
  obtain ⟨hb1c, hb1f⟩ := bcell hb1
  have hb1z := hb1.size
  try simp only [World.size_alloc, World.size_setCell, World.size_drew] at hb1z
  have hb1l0 : w.heap.size < w1.heap.size := by omega
  have hb1l1 : w.heap.size + 1 < w1.heap.size := by omega
  have hb1l2 : w.heap.size + 1 + 1 < w1.heap.size := by omega
  go_wp2_with fail
  go_ret
  refine ⟨ret_bool (by simp [onS, hn']), ?_⟩
  repeat (first | with_reducible exact bR _ | with_reducible assumption | with_reducible refine bA ?_ _ | with_reducible refine bD ?_ | with_reducible refine bN ?_ _ | ((with_reducible refine bS ?_ ?_ _); rotate_left; (simp; try omega)) | ((with_reducible refine bT ?_ ?_); rotate_left; with_reducible assumption) | with_reducible refine bT ?_ (by assumption))
end Go.Proofs.YtfondidmklmonaaGreat
namespace Go.Proofs.YtfondidmklmonaaGreat
open Go.RowKit

def crossS (a b c d : Pt) : Int := (b.x - a.x) * (d.y - c.y) - (b.y - a.y) * (d.x - c.x)
def dotS (a b c d : Pt) : Int := (b.x - a.x) * (d.x - c.x) + (b.y - a.y) * (d.y - c.y)

def ronS (a b p : Pt) : Bool := nears [a, b, p] && decide (crossS a b a p = 0) && decide (dotS a p b p ≤ 0)

end Go.Proofs.YtfondidmklmonaaGreat
namespace Go.Proofs.YtfondidmklmonaaGreat
open Go.RowKit

theorem AtX.facts {a b : Pt} {x : Int} (h : AtX a b x) : bd60 ((b.y - a.y) * (x - a.x)) ∧ b.x - a.x ≠ 0 ∧ bd60 (b.x - a.x) ∧
  (IntKind.i64.wrap (b.y - a.y) = b.y - a.y ∧ IntKind.i64.wrap (x - a.x) = x - a.x ∧ IntKind.i64.wrap ((b.y - a.y) * (x - a.x)) = (b.y - a.y) * (x - a.x) ∧ IntKind.i64.wrap (b.x - a.x) = b.x - a.x) := by
 obtain ⟨⟨a1, a2⟩, ⟨b1, b2⟩, h1, h2⟩ := h
 unfold btwX at h2
 have hm := mul_abs (u := b.y - a.y) (v := x - a.x) (m := 2097152) (n := 2097152) (by omega) (by omega)
 refine ⟨⟨by omega, by omega⟩, by omega, ⟨by omega, by omega⟩, IntWalk.i64_in _ (by omega), IntWalk.i64_in _ (by omega), IntWalk.i64_in _ (by omega), IntWalk.i64_in _ (by omega)⟩
theorem AtX.sum {a b : Pt} {x : Int} (h : AtX a b x) : IntKind.i64.wrap (atxS a b x) = atxS a b x := by
 obtain ⟨h1, h2, h3, -⟩ := h.facts
 obtain ⟨r1, r2, r3, r4, r5, r6⟩ := floor_rest h1 h2 h3
 refine IntWalk.i64_in _ ?_
 unfold atxS roundS
 have := h.pa.2
 split <;> omega

set_option maxRecDepth 100000 in
set_option maxHeartbeats 2000000 in
theorem accepted_spec (v : Value) (a b : Pt) (w : World) (h : Pts w v [a, b]) (ha : bdP a) (hb : bdP b) : Calls Tryz.prog 121 #[v] w fun e w' => e = .returned (.bool true) ∧ Below w.heap.size w w' := by
 obtain ⟨A, c, rfl, hn, hc, hR⟩ := h
 unfold maxLen at hc
 have HR := Lib.hid hR; clear hR
 have hal : ∀ k (hk : k < [a, b].length), bdP [a, b][k] := fun k hk => by
  have : k = 0 ∨ k = 1 := by simp at hk; omega
  rcases this with rfl | rfl
  · exact ha
  · exact hb
 have hln : [a, b].length = 2 := rfl
 have HL := Lib.hid hln
 have HAl := Lib.hid hal
 clear hal ha hb
 generalize [a, b] = l at *
 rw [hln] at hn ⊢
 clear hln
 go_enter Tryz.func121, Tryz.ntmps121
 go_wp2_with fail
 go_loopw [7] (fun u wr => ∃ k : Nat, k ≤ 2 ∧ u = .int .i64 k ∧ Below w.heap.size w wr) (fun u _ => 2 - (intOf u).toNat)
 case atStart => exact ⟨0, Nat.zero_le _, rfl, bR w⟩
 case round =>
  obtain ⟨k, hk, rfl, hb⟩ := hrel
  have Hb := Lib.hid hb
  clear hb
  by_cases hlt : k < 2
  ·
   have hlt' : k < l.length := by rw [HL.out]; exact hlt
   obtain ⟨b, o, rfl, hlb, c0, c1⟩ := (HR.out.mono Hb.out).pt hlt'
   obtain ⟨⟨p1, p2⟩, p3, p4⟩ := HAl.out k hlt'
   have n1 : ¬ l[k].x < -2097152 := by omega
   have n2 : ¬ 2097152 < l[k].x := by omega
   have n3 : ¬ l[k].y < -2097152 := by omega
   have n4 : ¬ 2097152 < l[k].y := by omega
   have q1 : 0 ≤ (k : Int) := by omega
   have q2 : (k : Int) < 2 := by omega
   clear p1 p2 p3 p4
   go_wp2_with fail
   go_roundw
   case rel => exact ⟨k + 1, by omega, by go_num, bA Hb.out _⟩
   case measure => simp [intOf]; omega
  ·
   have q2 : ¬ (k : Int) < 2 := by omega
   go_wp2_with fail
   go_ret
   exact ⟨rfl, Hb.out⟩

set_option maxRecDepth 100000 in
set_option maxHeartbeats 2000000 in
theorem sAtX_spec (a b : Pt) (x : Int) (w : World) (h : AtX a b x) : Calls Tryz.prog 126 #[ptV a, ptV b, .int .i64 x] w fun e w' => e = .returned (.tuple #[.int .i64 (atxS a b x), .int .i64 0]) ∧ Below w.heap.size w w' := by
 obtain ⟨f1, f2, f3, k1, k2, k3, k4⟩ := h.facts
 have k5 := h.sum
 have HRo := Lib.hid (fun w => Round_spec ((b.y - a.y) * (x - a.x)) (b.x - a.x) w f1 f2 f3)
 have HAc := Lib.hid (fun (v : Value) (w : World) hp => accepted_spec v a b w hp h.pa h.pb)
 have n1 : (a.x == b.x) = false := by rw [beq_eq_false_iff_ne]; exact h.ne
 have n2 : ¬ x < min a.x b.x := by have := h.lo; unfold btwX at this; omega
 have n3 : ¬ max a.x b.x < x := by have := h.lo; unfold btwX at this; omega
 have Hsum := Lib.hid k5
 clear h f1 f2 f3 k5
 unfold atxS at Hsum ⊢
 unfold ptV
 generalize roundS ((b.y - a.y) * (x - a.x)) (b.x - a.x) = q at *
 have k5 := Hsum.out
 obtain ⟨W1, hW1⟩ : ∃ W1 : World, W1 = ((w.alloc (.cells #[.int .i64 a.x, .int .i64 a.y] 28)).alloc (.cells #[.int .i64 b.x, .int .i64 b.y] 28)).alloc (.cells #[.int .i64 a.x, .int .i64 a.y, .int .i64 b.x, .int .i64 b.y] 28) := ⟨_, rfl⟩
 have B1 := Lib.hid (show Below w.heap.size w W1 by rw [hW1]; exact bA (bA (bA (bR w) _) _) _)
 have HX3 : Hid (Blk W1 w.heap.size 28 #[.int .i64 a.x, .int .i64 a.y]) := Lib.hid (by rw [hW1]; exact ((Blk.made rfl _ _).alloc _).alloc _)
 have HX4 : Hid (Blk W1 (w.heap.size + 1) 28 #[.int .i64 b.x, .int .i64 b.y]) := Lib.hid (by rw [hW1]; exact (Blk.made (by simp) _ _).alloc _)
 have HSl : Hid (Pts W1 (.slice (some ⟨w.heap.size + 1 + 1, 0, none⟩) 2 2) [a, b]) := Lib.hid (Sl.lit (n := 2) (g := w.heap.size + 1 + 1) (t := 28) (cs := #[.int .i64 a.x, .int .i64 a.y, .int .i64 b.x, .int .i64 b.y]) (by rw [hW1]; exact Blk.made (by simp) _ _) rfl (le_maxLen (by omega)))
 have HW1 := Lib.hid hW1
 clear hW1
 go_enter Tryz.func126, Tryz.ntmps126
 go_wp2_with fail
 rw [← HW1.out]
 refine (HAc.out _ _ HSl.out).mono ?_
 rintro e w1 ⟨rfl, hb1⟩
 have B2 := Lib.hid (bT B1.out hb1)
 have X3 := HX3.out.keep hb1
 have X4 := HX4.out.keep hb1
 clear hb1
 obtain ⟨X3l, X3a, X3b, -, -⟩ := X3.facts2
 obtain ⟨X4l, X4a, X4b, -, -⟩ := X4.facts2
 go_wp2_with fail
 all_goals
  refine (HRo.out _).mono ?_
  rintro e w2 ⟨rfl, rfl⟩
  go_wp2_with fail
  go_ret2
  exact ⟨rfl, B2.out⟩

set_option maxRecDepth 100000 in
set_option maxHeartbeats 2000000 in
theorem sAtY_spec (a b : Pt) (y : Int) (w : World) (h : AtX (turnP a) (turnP b) y) : Calls Tryz.prog 128 #[ptV a, ptV b, .int .i64 y] w fun e w' => e = .returned (.tuple #[.int .i64 (atxS (turnP a) (turnP b) y), .int .i64 0]) ∧ Below w.heap.size w w' := by
 have TA := fun w => sAtX_spec (turnP a) (turnP b) y w h
 unfold ptV at TA
 unfold ptV
 generalize atxS (turnP a) (turnP b) y = q at *
 unfold turnP at TA
 have HA := Lib.hid TA
 clear TA h
 go_enter Tryz.func128, Tryz.ntmps128
 go_wp2_with fail
 refine (HA.out _).mono ?_
 rintro e w1 ⟨rfl, hb1⟩
 go_wp2_with fail
 go_ret2
 exact ⟨rfl, bT (bA (bA (bR w) _) _) hb1⟩

end Go.Proofs.YtfondidmklmonaaGreat
namespace Go.Proofs.YtfondidmklmonaaGreat
open Go.RowKit

set_option maxRecDepth 100000 in
set_option maxHeartbeats 2000000 in
theorem gIn_spec (b : Bx) (p : Pt) (w : World) : Calls Tryz.prog 59 #[bxV b, ptV p] w fun e w' => e = .returned (.bool (inB b p)) ∧ Below w.heap.size w w' := by
 unfold bxV ptV
 obtain ⟨q, hq⟩ : ∃ q, inB b p = q := ⟨_, rfl⟩
 rw [hq]
 unfold inB at hq
 have Hq := Lib.hid hq
 clear hq
 go_enter Tryz.func59, Tryz.ntmps59
 by_cases h1 : b.x0 ≤ p.x
 case neg =>
  go_wp2_with fail
  go_ret
  exact ⟨ret_bool (by rw [← Hq.out]; exact (decide_eq_false (by omega)).symm), bA (bA (bR w) _) _⟩
 by_cases h2 : p.x ≤ b.x1
 case neg =>
  go_wp2_with fail
  go_ret
  exact ⟨ret_bool (by rw [← Hq.out]; exact (decide_eq_false (by omega)).symm), bA (bA (bR w) _) _⟩
 by_cases h3 : b.y0 ≤ p.y
 case neg =>
  go_wp2_with fail
  go_ret
  exact ⟨ret_bool (by rw [← Hq.out]; exact (decide_eq_false (by omega)).symm), bA (bA (bR w) _) _⟩
 by_cases h4 : p.y ≤ b.y1
 case neg =>
  go_wp2_with fail
  go_ret
  exact ⟨ret_bool (by rw [← Hq.out]; exact (decide_eq_false (by omega)).symm), bA (bA (bR w) _) _⟩
 go_wp2_with fail
 go_ret
 exact ⟨ret_bool (by rw [← Hq.out]; exact (decide_eq_true (by omega)).symm), bA (bA (bR w) _) _⟩
def plV (p : Plc) : Value := .agg #[.int .i64 p.n, .int .i64 p.d, .int .i64 p.at_.x, .int .i64 p.at_.y]
def plB (p : Plc) : Array Value := #[.int .i64 p.n, .int .i64 p.d, .int .i64 p.at_.x, .int .i64 p.at_.y]
/-- numbers whose products fit -/
def sm23 (n : Int) : Prop := -8388608 ≤ n ∧ n ≤ 8388608
theorem sm_mul {m n : Int} (hm : sm23 m) (hn : sm23 n) : -70368744177664 ≤ m * n ∧ m * n ≤ 70368744177664 := by
 have := mul_abs (u := m) (v := n) (m := 8388608) (n := 8388608) hm hn
 omega
set_option maxRecDepth 100000 in
set_option maxHeartbeats 2000000 in
theorem less_spec (p q : Plc) (w : World) (h1 : sm23 p.n) (h2 : sm23 p.d) (h3 : sm23 q.n) (h4 : sm23 q.d) : Calls Tryz.prog 124 #[plV p, plV q] w fun e w' => e = .returned (.bool (decide (p.n * q.d < q.n * p.d))) ∧ Below w.heap.size w w' := by
 unfold plV
 have a1 := sm_mul h1 h4
 have a2 := sm_mul h3 h2
 clear h1 h2 h3 h4
 go_enter Tryz.func124, Tryz.ntmps124
 go_wp2_with fail
 go_ret
 exact ⟨rfl, bA (bA (bR w) _) _⟩
end Go.Proofs.YtfondidmklmonaaGreat
namespace Go.Proofs.YtfondidmklmonaaGreat
open Go.RowKit

theorem struct_place : StructOf Tryz.prog 159 4 := .mk_ Tryz.underlying159 (by kernel_rfl)
def RetReach (w : World) (r : (Int × Int) × Bool) (e : Ending) (w' : World) : Prop :=
 e = .returned (.tuple #[.agg #[.int .i64 r.1.1, .int .i64 r.1.2, .int .i64 0, .int .i64 0], .bool r.2]) ∧ Below w.heap.size w w'
set_option maxRecDepth 100000 in
set_option maxHeartbeats 4000000 in
theorem reach_spec (s u v : Int) (w : World) (h1 : sm23 s) (h2 : sm23 u) (h3 : sm23 v) : Calls Tryz.prog 123 #[.int .i64 s, .int .i64 u, .int .i64 v] w (RetReach w (reachS s u v)) := by
 unfold sm23 at h1 h2 h3
 obtain ⟨r, hr⟩ : ∃ r, reachS s u v = r := ⟨_, rfl⟩
 rw [hr]
 unfold reachS at hr
 have Hr := Lib.hid hr
 clear hr
 go_enter Tryz.func123, Tryz.ntmps123
 go_upto_region 1 with fail
 obtain ⟨W, hW⟩ : ∃ W : World, W = w.alloc (.cells #[.int .i64 0, .int .i64 0, .int .i64 0, .int .i64 0] 159) := ⟨_, rfl⟩
 have B1 := Lib.hid (show Below w.heap.size w W by rw [hW]; exact bA (bR w) _)
 have X6 : Blk W w.heap.size 159 #[.int .i64 0, .int .i64 0, .int .i64 0, .int .i64 0] := by rw [hW]; exact Blk.made rfl _ _
 rw [← hW]
 clear hW
 obtain ⟨X6l, X6a, X6b, X6c, X6d, X6fa, X6fb, X6fc, X6fd⟩ := X6.facts4
 by_cases hin : min s (s + u) ≤ v ∧ v ≤ max s (s + u)
 ·
  by_cases hu : u < 0
  ·
   have a1 : s + u ≤ v := by omega
   have a2 : v ≤ s := by omega
   have a3 : s + u < s := by omega
   have hv := Lib.hid (show r = ((s - v, -u), true) by rw [← Hr.out, if_pos hin, if_pos hu])
   clear hin
   go_wp2_with fail
   all_goals
    refine res_cell_tmp (g := w.heap.size) (cs := #[.int .i64 (s - v), .int .i64 (-u), .int .i64 0, .int .i64 0]) rfl struct_place rfl rfl (Blk.put4 X6) ⟨?_, ?_⟩
    · rw [hv.out]; rfl
    · exact bS (bS (bS (bS B1.out (Nat.le_refl _) _) (Nat.le_refl _) _) (Nat.le_refl _) _) (Nat.le_refl _) _
  ·
   have a1 : s ≤ v := by omega
   have a2 : v ≤ s + u := by omega
   have a3 : s ≤ s + u := by omega
   have hv := Lib.hid (show r = ((v - s, u), true) by rw [← Hr.out, if_pos hin, if_neg hu])
   clear hin
   go_wp2_with fail
   all_goals
    refine res_cell_tmp (g := w.heap.size) (cs := #[.int .i64 (v - s), .int .i64 (u), .int .i64 0, .int .i64 0]) rfl struct_place rfl rfl (Blk.put4 X6) ⟨?_, ?_⟩
    · rw [hv.out]; rfl
    · exact bS (bS (bS (bS B1.out (Nat.le_refl _) _) (Nat.le_refl _) _) (Nat.le_refl _) _) (Nat.le_refl _) _
 ·
  have hin' : v < min s (s + u) ∨ max s (s + u) < v := by omega
  rcases hin' with h | h
  ·
   have a1 : v < s := by omega
   have a2 : v < s + u := by omega
   clear h
   by_cases hu : 0 < u
   ·
    have hv := Lib.hid (show r = ((-1, 1), false) by rw [← Hr.out, if_neg hin, if_pos (by simp [a1, hu])])
    clear hin
    go_wp2_with fail
    all_goals
     refine res_cell_tmp (g := w.heap.size) (cs := #[.int .i64 (-1), .int .i64 (1), .int .i64 0, .int .i64 0]) rfl struct_place rfl rfl (Blk.put4 X6) ⟨?_, ?_⟩
     · rw [hv.out]; rfl
     · exact bS (bS (bS (bS B1.out (Nat.le_refl _) _) (Nat.le_refl _) _) (Nat.le_refl _) _) (Nat.le_refl _) _
   ·
    have hv := Lib.hid (show r = ((1, 1), false) by rw [← Hr.out, if_neg hin, if_neg (by simp [a1, hu])])
    clear hin
    go_wp2_with fail
    all_goals
     refine res_cell_tmp (g := w.heap.size) (cs := #[.int .i64 (1), .int .i64 (1), .int .i64 0, .int .i64 0]) rfl struct_place rfl rfl (Blk.put4 X6) ⟨?_, ?_⟩
     · rw [hv.out]; rfl
     · exact bS (bS (bS (bS B1.out (Nat.le_refl _) _) (Nat.le_refl _) _) (Nat.le_refl _) _) (Nat.le_refl _) _
  ·
   have a1 : s < v := by omega
   have a2 : s + u < v := by omega
   have a4 : ¬ v < s := by omega
   clear h
   by_cases hu : 0 < u
   ·
    have hv := Lib.hid (show r = ((1, 1), false) by rw [← Hr.out, if_neg hin, if_neg (by simp [a4, hu])])
    clear hin
    go_wp2_with fail
    all_goals
     refine res_cell_tmp (g := w.heap.size) (cs := #[.int .i64 (1), .int .i64 (1), .int .i64 0, .int .i64 0]) rfl struct_place rfl rfl (Blk.put4 X6) ⟨?_, ?_⟩
     · rw [hv.out]; rfl
     · exact bS (bS (bS (bS B1.out (Nat.le_refl _) _) (Nat.le_refl _) _) (Nat.le_refl _) _) (Nat.le_refl _) _
   ·
    have hv := Lib.hid (show r = ((-1, 1), false) by rw [← Hr.out, if_neg hin, if_pos (by simp [a4, hu])])
    clear hin
    go_wp2_with fail
    all_goals
     refine res_cell_tmp (g := w.heap.size) (cs := #[.int .i64 (-1), .int .i64 (1), .int .i64 0, .int .i64 0]) rfl struct_place rfl rfl (Blk.put4 X6) ⟨?_, ?_⟩
     · rw [hv.out]; rfl
     · exact bS (bS (bS (bS B1.out (Nat.le_refl _) _) (Nat.le_refl _) _) (Nat.le_refl _) _) (Nat.le_refl _) _
end Go.Proofs.YtfondidmklmonaaGreat
