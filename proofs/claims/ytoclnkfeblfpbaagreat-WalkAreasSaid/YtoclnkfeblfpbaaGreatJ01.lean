/- Maps from ints to ints and from ints to bools that the call has made: as functions. Plain law: sorted lists, orbits of a one-to-one function on a list of numbers. No walk here. Steps of 'Below B w w1'. Finding elements: plan.Node, mapsheetsref14.Node, slices.Clone (points), plan.Degree, mapsheetsref14.Degree. Finding arcs: plan.Arc, mapsheetsref14.Arc. -/
import Derived.Test.YtoclnkfeblfpbaaGreatGB
set_option linter.unusedSimpArgs false
set_option linter.unusedVariables false
namespace Go.Proofs.YtoclnkfeblfpbaaGreat
open Go.RowKit

def iiD (n : Int) : DataW Unit := .lit (.int .i64 n)
def iiR : Value → Option (DataW Unit × List MemPlace)
 | .int .i64 n => some (iiD n, [])
 | _ => none
theorem iiR_inv {v : Value} {n : Int} {ps : List MemPlace} (h : iiR v = some (iiD n, ps)) : v = .int .i64 n := by
 unfold iiR at h
 split at h
 ·
  simp only [iiD, Option.some.injEq, Prod.mk.injEq, DataW.lit.injEq, Lit.int.injEq, true_and] at h
  rw [h.1]
 · cases h
/-- Block b is a map of at most n entries; at the key id it gives f id. -/
def MapII (w : World) (b n : Nat) (f : Int → Int) : Prop :=
 ∃ D : DataW Unit, w.ownsMap Tryz.prog 3 iiR b n D ∧ Maps.IsMap D ∧ ∀ id, D.atKey (.int .i64 id) (iiD 0) = iiD (f id)
theorem MapII.kept {w w' : World} {b n : Nat} {f : Int → Int} (h : MapII w b n f) {row : Option Nat} (hg : w.grownBy w' row) (hr : some b ≠ row) : MapII w' b n f := by
 obtain ⟨D, h1, h2⟩ := h
 exact ⟨D, h1.kept hg hr, h2⟩
theorem MapII.keep {w w' : World} {b n : Nat} {f : Int → Int} (h : MapII w b n f) (hb : Below w.heap.size w w') : MapII w' b n f :=
 h.kept (row := none) ⟨hb.os, hb.tape, hb.output, hb.size, fun i hi _ => hb.block i hi⟩ (by simp)
theorem MapII.lt {w : World} {b n : Nat} {f : Int → Int} (h : MapII w b n f) : b < w.heap.size := by
 obtain ⟨D, h1, h2⟩ := h
 exact h1.lt
theorem MapII.made (w : World) : MapII (w.alloc (.map #[] 0)) w.heap.size 0 (fun _ => 0) :=
 ⟨.map [], World.ownsMap_made _ _ _ _, ⟨_, rfl⟩, fun _ => rfl⟩
theorem zero_ii (w : World) : (zeroValue 3).run Tryz.prog w = .ok (.int .i64 0) w := by kernel_rfl
theorem MapII.look {w : World} {b n : Nat} {f : Int → Int} (h : MapII w b n f) (id : Int) (hid : wfI id) :
  (Instr.lookup 54 (.map (some b)) (.int .i64 id) false).run Tryz.prog w = .ok (.int .i64 (f id)) w := by
 obtain ⟨D, h1, -, h2⟩ := h
 obtain ⟨v, ps, hr, hv⟩ := h1.lookup keyed_int Tryz.underlying54 (zero_ii w) (zd := iiD 0) (zp := []) rfl (Maps.keyOf_int_mk Tryz.underlying3 hid)
 rw [h2] at hv
 rw [hr, iiR_inv hv]
theorem MapII.upd {w : World} {b n : Nat} {f : Int → Int} (h : MapII w b n f) (hn : n < 4294967296) (id : Int) (hid : wfI id) (x : Int) :
  ∃ w', (Instr.mapUpdate 54 (.map (some b)) (.int .i64 id) (.int .i64 x)).run Tryz.prog w = .ok () w' ∧ MapII w' b (n + 1) (fun i => if i = id then x else f i) ∧ w.grownBy w' (some b) := by
 obtain ⟨D, h1, hm, h2⟩ := h
 obtain ⟨w', hr, ho, hg⟩ := h1.update keyed_int Tryz.underlying54 (by unfold maxLen; omega) (Maps.keyOf_int_mk Tryz.underlying3 hid) (val := .int .i64 x) (d := iiD x) (ps := []) rfl
 refine ⟨w', hr, ⟨_, ho, ?_, fun i => ?_⟩, hg⟩
 · obtain ⟨es, rfl⟩ := hm; exact ⟨_, rfl⟩
 ·
  show _ = iiD (if i = id then x else f i)
  by_cases e : i = id
  ·
   subst e
   rw [if_pos rfl]
   exact Maps.atKey_put_same hm (by trivial) _ _
  · rw [if_neg e, Maps.atKey_put_other (fun h => e (by injection h)), h2]

def ibD (b : Bool) : DataW Unit := .lit (.bool b)
def ibR : Value → Option (DataW Unit × List MemPlace)
 | .bool b => some (ibD b, [])
 | _ => none
theorem ibR_inv {v : Value} {b : Bool} {ps : List MemPlace} (h : ibR v = some (ibD b, ps)) : v = .bool b := by
 unfold ibR at h
 split at h
 ·
  simp only [ibD, Option.some.injEq, Prod.mk.injEq, DataW.lit.injEq, Lit.bool.injEq] at h
  rw [h.1]
 · cases h
def MapIB (w : World) (b n : Nat) (f : Int → Bool) : Prop :=
 ∃ D : DataW Unit, w.ownsMap Tryz.prog 3 ibR b n D ∧ Maps.IsMap D ∧ ∀ id, D.atKey (.int .i64 id) (ibD false) = ibD (f id)
theorem MapIB.kept {w w' : World} {b n : Nat} {f : Int → Bool} (h : MapIB w b n f) {row : Option Nat} (hg : w.grownBy w' row) (hr : some b ≠ row) : MapIB w' b n f := by
 obtain ⟨D, h1, h2⟩ := h
 exact ⟨D, h1.kept hg hr, h2⟩
theorem MapIB.keep {w w' : World} {b n : Nat} {f : Int → Bool} (h : MapIB w b n f) (hb : Below w.heap.size w w') : MapIB w' b n f :=
 h.kept (row := none) ⟨hb.os, hb.tape, hb.output, hb.size, fun i hi _ => hb.block i hi⟩ (by simp)
theorem MapIB.lt {w : World} {b n : Nat} {f : Int → Bool} (h : MapIB w b n f) : b < w.heap.size := by
 obtain ⟨D, h1, h2⟩ := h
 exact h1.lt
theorem MapIB.made (w : World) : MapIB (w.alloc (.map #[] 0)) w.heap.size 0 (fun _ => false) :=
 ⟨.map [], World.ownsMap_made _ _ _ _, ⟨_, rfl⟩, fun _ => rfl⟩
theorem zero_ib (w : World) : (zeroValue 4).run Tryz.prog w = .ok (.bool false) w := by kernel_rfl
theorem MapIB.look {w : World} {b n : Nat} {f : Int → Bool} (h : MapIB w b n f) (id : Int) (hid : wfI id) :
  (Instr.lookup 57 (.map (some b)) (.int .i64 id) false).run Tryz.prog w = .ok (.bool (f id)) w := by
 obtain ⟨D, h1, -, h2⟩ := h
 obtain ⟨v, ps, hr, hv⟩ := h1.lookup keyed_int Tryz.underlying57 (zero_ib w) (zd := ibD false) (zp := []) rfl (Maps.keyOf_int_mk Tryz.underlying3 hid)
 rw [h2] at hv
 rw [hr, ibR_inv hv]
theorem MapIB.upd {w : World} {b n : Nat} {f : Int → Bool} (h : MapIB w b n f) (hn : n < 4294967296) (id : Int) (hid : wfI id) (x : Bool) :
  ∃ w', (Instr.mapUpdate 57 (.map (some b)) (.int .i64 id) (.bool x)).run Tryz.prog w = .ok () w' ∧ MapIB w' b (n + 1) (fun i => if i = id then x else f i) ∧ w.grownBy w' (some b) := by
 obtain ⟨D, h1, hm, h2⟩ := h
 obtain ⟨w', hr, ho, hg⟩ := h1.update keyed_int Tryz.underlying57 (by unfold maxLen; omega) (Maps.keyOf_int_mk Tryz.underlying3 hid) (val := .bool x) (d := ibD x) (ps := []) rfl
 refine ⟨w', hr, ⟨_, ho, ?_, fun i => ?_⟩, hg⟩
 · obtain ⟨es, rfl⟩ := hm; exact ⟨_, rfl⟩
 ·
  show _ = ibD (if i = id then x else f i)
  by_cases e : i = id
  ·
   subst e
   rw [if_pos rfl]
   exact Maps.atKey_put_same hm (by trivial) _ _
  · rw [if_neg e, Maps.atKey_put_other (fun h => e (by injection h)), h2]
end Go.Proofs.YtoclnkfeblfpbaaGreat
namespace Go.Proofs.YtoclnkfeblfpbaaGreat

section
variable {α : Type}
theorem sorted_uniq {lt : α → α → Bool} : ∀ {l m : List α}, l.Perm m → l.Pairwise (fun a b => lt b a = false) → m.Pairwise (fun a b => lt b a = false) → (∀ a ∈ l, ∀ b ∈ l, lt a b = false → lt b a = false → a = b) → l = m
 | [], m, hp, _, _, _ => (List.nil_perm.1 hp).symm
 | a :: l, [], hp, _, _, _ => by have := hp.length_eq; simp at this
 | a :: l, b :: m, hp, h1, h2, ht => by
  have h1' := List.pairwise_cons.1 h1
  have h2' := List.pairwise_cons.1 h2
  have hab : a = b := by
   have ha : a ∈ b :: m := hp.subset (List.mem_cons_self)
   have hb : b ∈ a :: l := hp.symm.subset (List.mem_cons_self)
   rcases List.mem_cons.1 ha with e | ha
   · exact e
   rcases List.mem_cons.1 hb with e | hb
   · exact e.symm
   exact ht a List.mem_cons_self b (List.mem_cons_of_mem _ hb) (h2'.1 a ha) (h1'.1 b hb)
  subst hab
  rw [sorted_uniq (List.Perm.cons_inv hp) h1'.2 h2'.2 (fun x hx y hy => ht x (List.mem_cons_of_mem _ hx) y (List.mem_cons_of_mem _ hy))]
/-- a list without repetitions within another list is no longer -/
theorem nodup_le : ∀ {l m : List Int}, l.Nodup → (∀ x ∈ l, x ∈ m) → l.length ≤ m.length
 | [], m, _, _ => Nat.zero_le _
 | a :: l, m, h, hs => by
  have h' := List.nodup_cons.1 h
  have ha := hs a List.mem_cons_self
  have := nodup_le (m := m.erase a) h'.2 (fun x hx => (List.mem_erase_of_ne (fun e => h'.1 (by rw [← e]; exact hx))).2 (hs x (List.mem_cons_of_mem _ hx)))
  rw [List.length_erase_of_mem ha] at this
  have hp : 0 < m.length := List.length_pos_of_mem ha
  simp only [List.length_cons]
  omega
/-- x, f x, f (f x), .. : n of them -/
def iter (f : Int → Int) (x : Int) : Nat → List Int
 | 0 => []
 | n + 1 => x :: iter f (f x) n
def pw (f : Int → Int) (x : Int) : Nat → Int
 | 0 => x
 | n + 1 => f (pw f x n)
theorem pw_succ (f : Int → Int) (x : Int) (n : Nat) : pw f (f x) n = pw f x (n + 1) := by
 induction n with
 | zero => rfl
 | succ n ih => rw [pw, ih]; rfl
theorem iter_len (f : Int → Int) (x : Int) (n : Nat) : (iter f x n).length = n := by
 induction n generalizing x with
 | zero => rfl
 | succ n ih => simp [iter, ih]
theorem iter_get (f : Int → Int) (x : Int) (n k : Nat) (hk : k < (iter f x n).length) : (iter f x n)[k] = pw f x k := by
 induction n generalizing x k with
 | zero => simp [iter] at hk
 | succ n ih =>
  cases k with
  | zero => rfl
  | succ k =>
   simp only [iter, List.getElem_cons_succ]
   rw [ih (f x) k (by simpa [iter] using hk), pw_succ]
theorem iter_snoc (f : Int → Int) (x : Int) (n : Nat) : iter f x (n + 1) = iter f x n ++ [pw f x n] := by
 induction n generalizing x with
 | zero => rfl
 | succ n ih =>
  rw [iter, ih (f x), pw_succ]; rfl
variable {f : Int → Int} {D : List Int} (hD : ∀ x ∈ D, f x ∈ D) (hi : ∀ x ∈ D, ∀ y ∈ D, f x = f y → x = y)
include hD in
theorem pw_mem {x : Int} (hx : x ∈ D) (n : Nat) : pw f x n ∈ D := by
 induction n with
 | zero => exact hx
 | succ n ih => exact hD _ ih
include hD hi in
theorem pw_back {x : Int} (hx : x ∈ D) {i j : Nat} (h : pw f x i = pw f x (i + j)) : pw f x j = x := by
 induction i with
 | zero => rw [Nat.zero_add] at h; exact h.symm
 | succ i ih =>
  refine ih (hi _ (pw_mem hD hx i) _ (pw_mem hD hx (i + j)) ?_)
  rw [show i + 1 + j = (i + j) + 1 by omega] at h
  exact h
/-- no return within n steps: n different elements -/
theorem iter_nodup_or (f : Int → Int) (x : Int) (n : Nat) : (iter f x n).Nodup ∨ ∃ i j, 0 < j ∧ i + j < n ∧ pw f x i = pw f x (i + j) := by
 induction n with
 | zero => exact .inl List.nodup_nil
 | succ n ih =>
  rcases ih with h | ⟨i, j, h1, h2, h3⟩
  ·
   by_cases hm : pw f x n ∈ iter f x n
   ·
    right
    obtain ⟨k, hk, e⟩ := List.mem_iff_getElem.1 hm
    rw [iter_get] at e
    rw [iter_len] at hk
    exact ⟨k, n - k, by omega, by omega, by rw [e, show k + (n - k) = n by omega]⟩
   ·
    left
    rw [iter_snoc, List.nodup_append]
    refine ⟨h, by simp, fun a ha b hb => ?_⟩
    rw [List.mem_singleton] at hb
    subst hb
    exact fun e => hm (e ▸ ha)
  · exact .inr ⟨i, j, h1, by omega, h3⟩
include hD hi in
/-- the orbit of an element comes back -/
theorem returns {x : Int} (hx : x ∈ D) : ∃ j, 0 < j ∧ j ≤ D.length ∧ pw f x j = x := by
 rcases iter_nodup_or f x (D.length + 1) with h | ⟨i, j, h1, h2, h3⟩
 ·
  have := nodup_le h (fun y hy => by
   obtain ⟨k, hk, rfl⟩ := List.mem_iff_getElem.1 hy
   rw [iter_get]; exact pw_mem hD hx k)
  rw [iter_len] at this
  omega
 · exact ⟨j, h1, by omega, pw_back hD hi hx h3⟩
/-- the length of the orbit: the first return within n steps, n + 1 if there is none -/
def per (f : Int → Int) (x : Int) : Nat → Nat → Nat
 | k, 0 => k
 | k, n + 1 => if pw f x k = x then k else per f x (k + 1) n
theorem per_first (f : Int → Int) (x : Int) (k n : Nat) : k ≤ per f x k n ∧ ∀ j, k ≤ j → j < per f x k n → pw f x j ≠ x := by
 induction n generalizing k with
 | zero => exact ⟨Nat.le_refl _, fun j h1 h2 => by simp only [per] at h2; omega⟩
 | succ n ih =>
  unfold per
  split
  · exact ⟨Nat.le_refl _, fun j h1 h2 => by omega⟩
  ·
   rename_i hne
   obtain ⟨h1, h2⟩ := ih (k + 1)
   refine ⟨by omega, fun j hj hj2 => ?_⟩
   by_cases e : j = k
   · subst e; exact hne
   · exact h2 j (by omega) hj2
theorem per_hit (f : Int → Int) (x : Int) (k n : Nat) (h : ∃ j, k ≤ j ∧ j ≤ k + n ∧ pw f x j = x) : pw f x (per f x k n) = x ∧ per f x k n ≤ k + n := by
 induction n generalizing k with
 | zero =>
  obtain ⟨j, h1, h2, h3⟩ := h
  have : j = k := by omega
  subst this
  exact ⟨h3, Nat.le_refl _⟩
 | succ n ih =>
  unfold per
  split
  · rename_i e; exact ⟨e, by omega⟩
  ·
   rename_i hne
   obtain ⟨j, h1, h2, h3⟩ := h
   have := ih (k + 1) ⟨j, by
    by_cases e : j = k
    · subst e; exact absurd h3 hne
    · omega, by omega, h3⟩
   exact ⟨this.1, by omega⟩
def orbN (f : Int → Int) (D : List Int) (x : Int) : Nat := per f x 1 D.length
/-- the orbit of an element, from it on -/
def orb (f : Int → Int) (D : List Int) (x : Int) : List Int := iter f x (orbN f D x)
include hD hi in
theorem orb_facts {x : Int} (hx : x ∈ D) : 0 < orbN f D x ∧ orbN f D x ≤ D.length + 1 ∧ pw f x (orbN f D x) = x ∧ (∀ j, 0 < j → j < orbN f D x → pw f x j ≠ x) ∧ (orb f D x).Nodup ∧ (orb f D x).length = orbN f D x := by
 obtain ⟨j, h1, h2, h3⟩ := returns hD hi hx
 obtain ⟨a1, a2⟩ := per_first f x 1 D.length
 obtain ⟨b1, b2⟩ := per_hit f x 1 D.length ⟨j, h1, by omega, h3⟩
 refine ⟨a1, by show per f x 1 D.length ≤ _; omega, b1, fun j h1 h2 => a2 j h1 h2, ?_, iter_len _ _ _⟩
 rcases iter_nodup_or f x (orbN f D x) with h | ⟨i, j, c1, c2, c3⟩
 · exact h
 · exact absurd (pw_back hD hi hx c3) (a2 j c1 (by unfold orbN at c2; omega))
theorem mem_iter {f : Int → Int} {x y : Int} {n : Nat} : y ∈ iter f x n ↔ ∃ k, k < n ∧ pw f x k = y := by
 rw [List.mem_iff_getElem]
 constructor
 ·
  rintro ⟨k, hk, e⟩
  rw [iter_get] at e
  rw [iter_len] at hk
  exact ⟨k, hk, e⟩
 ·
  rintro ⟨k, hk, e⟩
  exact ⟨k, by rw [iter_len]; exact hk, by rw [iter_get]; exact e⟩
include hD hi in
theorem orb_closed {x y : Int} (hx : x ∈ D) : y ∈ D → (f y ∈ orb f D x ↔ y ∈ orb f D x) := by
 intro hy
 obtain ⟨h1, -, h3, -, -, -⟩ := orb_facts hD hi hx
 unfold orb
 rw [mem_iter, mem_iter]
 constructor
 ·
  rintro ⟨k, hk, e⟩
  cases k with
  | zero =>
   refine ⟨orbN f D x - 1, by omega, hi _ (pw_mem hD hx _) _ hy ?_⟩
   have : pw f x (orbN f D x - 1 + 1) = x := by rw [Nat.sub_add_cancel h1]; exact h3
   rw [pw] at this
   rw [this]; exact e
  | succ k => exact ⟨k, by omega, hi _ (pw_mem hD hx _) _ hy e⟩
 ·
  rintro ⟨k, hk, rfl⟩
  by_cases e : k + 1 = orbN f D x
  ·
   refine ⟨0, h1, ?_⟩
   have h4 : pw f x (k + 1) = x := by rw [e]; exact h3
   exact h4.symm
  · exact ⟨k + 1, by omega, rfl⟩
end
section
/-- the orbits of the elements of a list, each taken at its first element in the list -/
def cycStep (f : Int → Int) (D : List Int) (acc : List (List Int)) (d : Int) : List (List Int) := if d ∈ acc.flatten then acc else acc ++ [orb f D d]
def cycL (f : Int → Int) (D L : List Int) : List (List Int) := L.foldl (cycStep f D) []
variable {f : Int → Int} {D : List Int}
theorem head_orb {x : Int} (h : 0 < orbN f D x) : x ∈ orb f D x := mem_iter.2 ⟨0, h, rfl⟩
theorem orb_mem (hD : ∀ x ∈ D, f x ∈ D) {x y : Int} (hx : x ∈ D) (hy : y ∈ orb f D x) : y ∈ D := by
 obtain ⟨k, -, rfl⟩ := mem_iter.1 hy
 exact pw_mem hD hx k
/-- the state behind the elements P of the list -/
structure Cyc (f : Int → Int) (D P : List Int) (acc : List (List Int)) : Prop where
 orbs : ∀ l ∈ acc, ∃ d ∈ P, l = orb f D d ∧ ∀ e ∈ l, e ∈ P → d ≤ e
 covers : ∀ x ∈ P, x ∈ acc.flatten
 nodup : acc.flatten.Nodup
 closed : ∀ y ∈ D, f y ∈ acc.flatten ↔ y ∈ acc.flatten
theorem Cyc.back {P : List Int} {acc : List (List Int)} (h : Cyc f D P acc) (hD : ∀ x ∈ D, f x ∈ D) {x : Int} (hx : x ∈ D) (k : Nat) : pw f x k ∈ acc.flatten ↔ x ∈ acc.flatten := by
 induction k with
 | zero => exact Iff.rfl
 | succ k ih => exact (h.closed _ (pw_mem hD hx k)).trans ih
theorem Cyc.nil (f : Int → Int) (D : List Int) : Cyc f D [] [] := ⟨fun l h => (by cases h), fun x h => (by cases h), List.nodup_nil, fun y _ => ⟨fun h => (by cases h), fun h => (by cases h)⟩⟩
theorem Cyc.apart {P : List Int} {acc : List (List Int)} (h : Cyc f D P acc) (hD : ∀ x ∈ D, f x ∈ D) {d : Int} (hd : d ∈ D) (hm : d ∉ acc.flatten) {y : Int} (hy : y ∈ orb f D d) : y ∉ acc.flatten := by
 obtain ⟨k, -, rfl⟩ := mem_iter.1 hy
 exact fun e => hm ((h.back hD hd k).1 e)
theorem Cyc.step {P : List Int} {acc : List (List Int)} (h : Cyc f D P acc) (hD : ∀ x ∈ D, f x ∈ D) (hi : ∀ x ∈ D, ∀ y ∈ D, f x = f y → x = y) {d : Int} (hd : d ∈ D) (hlt : ∀ x ∈ P, x < d) : Cyc f D (P ++ [d]) (cycStep f D acc d) := by
 unfold cycStep
 by_cases hm : d ∈ acc.flatten
 ·
  rw [if_pos hm]
  refine ⟨fun l hl => ?_, fun x hx => ?_, h.nodup, h.closed⟩
  ·
   obtain ⟨d', h1, h2, h3⟩ := h.orbs l hl
   refine ⟨d', List.mem_append_left _ h1, h2, fun e he hp => ?_⟩
   rcases List.mem_append.1 hp with hp | hp
   · exact h3 e he hp
   · rw [List.mem_singleton] at hp; subst hp; exact Int.le_of_lt (hlt _ h1)
  ·
   rcases List.mem_append.1 hx with hx | hx
   · exact h.covers x hx
   · rw [List.mem_singleton] at hx; subst hx; exact hm
 ·
  rw [if_neg hm]
  obtain ⟨o1, -, -, -, o5, -⟩ := orb_facts hD hi hd
  have hfl : (acc ++ [orb f D d]).flatten = acc.flatten ++ orb f D d := by simp
  refine ⟨fun l hl => ?_, fun x hx => ?_, ?_, fun y hy => ?_⟩
  ·
   rcases List.mem_append.1 hl with hl | hl
   ·
    obtain ⟨d', h1, h2, h3⟩ := h.orbs l hl
    refine ⟨d', List.mem_append_left _ h1, h2, fun e he hp => ?_⟩
    rcases List.mem_append.1 hp with hp | hp
    · exact h3 e he hp
    · rw [List.mem_singleton] at hp; subst hp; exact Int.le_of_lt (hlt _ h1)
   ·
    rw [List.mem_singleton] at hl
    refine ⟨d, List.mem_append_right _ (List.mem_singleton.2 rfl), hl, fun e he hp => ?_⟩
    subst hl
    rcases List.mem_append.1 hp with hp | hp
    · exact absurd (h.covers e hp) (h.apart hD hd hm he)
    · rw [List.mem_singleton] at hp; exact Int.le_of_eq hp.symm
  ·
   rw [hfl]
   rcases List.mem_append.1 hx with hx | hx
   · exact List.mem_append_left _ (h.covers x hx)
   · rw [List.mem_singleton] at hx; subst hx; exact List.mem_append_right _ (head_orb o1)
  ·
   rw [hfl, List.nodup_append]
   exact ⟨h.nodup, o5, fun a ha b hb e => h.apart hD hd hm hb (e ▸ ha)⟩
  · rw [hfl, List.mem_append, List.mem_append, h.closed y hy, orb_closed hD hi hd hy]
theorem cyc_fold (hD : ∀ x ∈ D, f x ∈ D) (hi : ∀ x ∈ D, ∀ y ∈ D, f x = f y → x = y) : ∀ (L P : List Int) (acc : List (List Int)), Cyc f D P acc → (∀ x ∈ L, x ∈ D) → (P ++ L).Pairwise (· < ·) → Cyc f D (P ++ L) (L.foldl (cycStep f D) acc)
 | [], P, acc, h, _, _ => by rw [List.append_nil]; exact h
 | d :: L, P, acc, h, hs, hp => by
  have hp' := List.pairwise_append.1 hp
  have := cyc_fold hD hi L (P ++ [d]) _ (h.step hD hi (hs d List.mem_cons_self) (fun x hx => hp'.2.2 x hx d List.mem_cons_self)) (fun x hx => hs x (List.mem_cons_of_mem _ hx)) (by rw [List.append_assoc]; exact hp)
  rw [List.append_assoc] at this
  exact this
theorem cyc_all (hD : ∀ x ∈ D, f x ∈ D) (hi : ∀ x ∈ D, ∀ y ∈ D, f x = f y → x = y) (hs : D.Pairwise (· < ·)) : Cyc f D D (cycL f D D) := by
 have := cyc_fold hD hi D [] [] (Cyc.nil f D) (fun x hx => hx) hs
 exact this
theorem Cyc.perm {acc : List (List Int)} (h : Cyc f D D acc) (hD : ∀ x ∈ D, f x ∈ D) (hs : D.Nodup) : acc.flatten.Perm D := by
 refine (List.perm_ext_iff_of_nodup h.nodup hs).2 fun x => ⟨fun hx => ?_, h.covers x⟩
 obtain ⟨l, hl, hx⟩ := List.mem_flatten.1 hx
 obtain ⟨d, h1, h2, -⟩ := h.orbs l hl
 subst h2
 exact orb_mem hD h1 hx
end
end Go.Proofs.YtoclnkfeblfpbaaGreat
namespace Go.Proofs.YtoclnkfeblfpbaaGreat
open Go.RowKit

theorem bAB {B : Nat} {W w : World} (hB : B ≤ W.heap.size) (h : Below B W w) (o : Obj) : Below B W (w.alloc o) := h.alloc (Nat.le_trans hB h.size) o
theorem bSB {B b i : Nat} {W w : World} (h : Below B W w) (hb : B ≤ b) (u : Value) : Below B W (w.setCell ⟨b, i, none⟩ u) := h.setCell (p := ⟨b, i, none⟩) hb u
end Go.Proofs.YtoclnkfeblfpbaaGreat
namespace Go.Proofs.YtoclnkfeblfpbaaGreat
open Go.RowKit

def findNd (l : List Nd) (id : Int) : Option Nd := l.find? (fun n => n.id == id)
def nd0 : Nd := ⟨0, ⟨0, 0⟩⟩
def ndRes (r : Option Nd) : Value := .tuple #[ndV (r.getD nd0), .bool r.isSome]

theorem PlV.nodes {w : World} {vn va vf : Value} {p : Pl} (h : PlV w (.agg #[vn, va, vf]) p) : Nds w vn p.nodes := by
 obtain ⟨_, _, _, _, e, _, h1, _, _⟩ := h
 simp only [Value.agg.injEq, Array.mk.injEq, List.cons.injEq, and_true] at e
 obtain ⟨rfl, rfl, rfl⟩ := e
 exact h1

set_option maxHeartbeats 400000 in
theorem Node_spec (v : Value) (p : Pl) (id : Int) (w : World) (h : PlV w v p) :
  Calls Tryz.prog 46 #[v, .int .i64 id] w fun e w' => e = .returned (ndRes (findNd p.nodes id)) ∧ Below w.heap.size w w' := by
 obtain ⟨_, va, vf, al, rfl, hpa, ⟨An, cn, rfl, hn1, hn2, hR⟩, -, -⟩ := h
 unfold maxLen at hn2
 generalize p.nodes = l at *
 clear hpa
 go_enter Tryz.func46, Tryz.ntmps46
 go_wp2_with fail
 go_loopw [11] (fun i wr => ∃ k : Nat, k ≤ l.length ∧ i = .int .i64 k ∧ Below w.heap.size w wr ∧ Blk wr (w.heap.size + 1) 43 #[.int .i64 0, .int .i64 0, .int .i64 0] ∧ ∀ j (hj : j < l.length), j < k → (l[j].id == id) = false) (fun i _ => l.length - (intOf i).toNat)
 case atStart => exact ⟨0, Nat.zero_le _, rfl, bA (bA (bR w) _) _, Blk.made (by simp) _ _, fun j _ h => by omega⟩
 case round =>
  obtain ⟨k, hk, rfl, hb, X4, hno⟩ := hrel
  have Hb := Lib.hid hb
  have Hno := Lib.hid hno
  clear hb hno
  obtain ⟨X4l, X4a, X4b, X4c, X4fa, X4fb, X4fc⟩ := X4.facts3
  by_cases hlt : k < l.length
  ·
   obtain ⟨b, o, rfl, hlb, c0, c1, c2⟩ := (hR.mono Hb.out).nd hlt
   have HR := Lib.hid hR; clear hR
   cases he : (l[k].id == id)
   ·
    go_wp2
    go_roundw
    case rel => exact ⟨k + 1, by omega, by go_num, bA Hb.out _, X4.alloc _, all_succ (p := fun x => (x.id == id) = false) Hno.out hlt he⟩
    case measure => simp [intOf]; omega
   ·
    have hf := find_hit l (fun n => n.id == id) k hlt Hno.out he
    have Hf := Lib.hid hf; clear hf
    go_wp2
    have Bw := Hb.out
    refine res_cell_tmp (g := w.heap.size + 1) (cs := #[.int .i64 l[k].id, .int .i64 l[k].pt.x, .int .i64 l[k].pt.y]) rfl struct_nd rfl rfl (Blk.put3 X4 |>.alloc _) ⟨by rw [findNd, Hf.out]; rfl, ?_⟩
    repeat (first | with_reducible exact bR _ | with_reducible assumption | with_reducible refine bA ?_ _ | with_reducible refine bD ?_ | with_reducible refine bN ?_ _ | ((with_reducible refine bS ?_ ?_ _); rotate_left; (simp; try omega)) | ((with_reducible refine bT ?_ ?_); rotate_left; with_reducible assumption) | with_reducible refine bT ?_ (by assumption))
  ·
   have hf := find_miss l (fun n => n.id == id) (fun j hj => Hno.out j hj (by omega))
   have Hf := Lib.hid hf; clear hf
   go_wp2
   have Bw := Hb.out
   refine res_cell_tmp (g := w.heap.size + 1) (cs := #[.int .i64 0, .int .i64 0, .int .i64 0]) rfl struct_nd rfl rfl (Blk.put3 X4) ⟨by rw [findNd, Hf.out]; rfl, ?_⟩
   repeat (first | with_reducible exact bR _ | with_reducible assumption | with_reducible refine bA ?_ _ | with_reducible refine bD ?_ | with_reducible refine bN ?_ _ | ((with_reducible refine bS ?_ ?_ _); rotate_left; (simp; try omega)) | ((with_reducible refine bT ?_ ?_); rotate_left; with_reducible assumption) | with_reducible refine bT ?_ (by assumption))

set_option maxHeartbeats 400000 in
theorem RNode_spec (v : Value) (p : Pl) (id : Int) (w : World) (h : PlV w v p) :
  Calls Tryz.prog 106 #[v, .int .i64 id] w fun e w' => e = .returned (ndRes (findNd p.nodes id)) ∧ Below w.heap.size w w' := by
 obtain ⟨_, va, vf, al, rfl, hpa, ⟨An, cn, rfl, hn1, hn2, hR⟩, -, -⟩ := h
 unfold maxLen at hn2
 generalize p.nodes = l at *
 clear hpa
 go_enter Tryz.func106, Tryz.ntmps106
 go_wp2_with fail
 go_loopw [6] (fun i wr => ∃ k : Nat, k ≤ l.length ∧ i = .int .i64 k ∧ Below w.heap.size w wr ∧ Blk wr w.heap.size 26 #[.slice An l.length cn, va, vf] ∧ Blk wr (w.heap.size + 1) 43 #[.int .i64 0, .int .i64 0, .int .i64 0] ∧ ∀ j (hj : j < l.length), j < k → (l[j].id == id) = false) (fun i _ => l.length - (intOf i).toNat)
 case atStart => exact ⟨0, Nat.zero_le _, rfl, bA (bA (bR w) _) _, (Blk.made rfl _ _).alloc _, Blk.made (by simp) _ _, fun j _ h => by omega⟩
 case round =>
  obtain ⟨k, hk, rfl, hb, X2, X4, hno⟩ := hrel
  have Hb := Lib.hid hb
  have Hno := Lib.hid hno
  clear hb hno
  obtain ⟨X2l, X2a, X2b, X2c, -, -, -⟩ := X2.facts3
  obtain ⟨X4l, X4a, X4b, X4c, X4fa, X4fb, X4fc⟩ := X4.facts3
  by_cases hlt : k < l.length
  ·
   obtain ⟨b, o, rfl, hlb, c0, c1, c2⟩ := (hR.mono Hb.out).nd hlt
   have HR := Lib.hid hR; clear hR
   cases he : (l[k].id == id)
   ·
    go_wp2
    go_roundw
    case rel => exact ⟨k + 1, by omega, by go_num, Hb.out, X2, X4, all_succ (p := fun x => (x.id == id) = false) Hno.out hlt he⟩
    case measure => simp [intOf]; omega
   ·
    have hf := find_hit l (fun n => n.id == id) k hlt Hno.out he
    have Hf := Lib.hid hf; clear hf
    go_wp2
    have Bw := Hb.out
    refine res_cell_tmp (g := w.heap.size + 1) (cs := #[.int .i64 l[k].id, .int .i64 l[k].pt.x, .int .i64 l[k].pt.y]) rfl struct_nd rfl rfl (Blk.put3 X4) ⟨by rw [findNd, Hf.out]; rfl, ?_⟩
    repeat (first | with_reducible exact bR _ | with_reducible assumption | with_reducible refine bA ?_ _ | with_reducible refine bD ?_ | with_reducible refine bN ?_ _ | ((with_reducible refine bS ?_ ?_ _); rotate_left; (simp; try omega)) | ((with_reducible refine bT ?_ ?_); rotate_left; with_reducible assumption) | with_reducible refine bT ?_ (by assumption))
  ·
   have hf := find_miss l (fun n => n.id == id) (fun j hj => Hno.out j hj (by omega))
   have Hf := Lib.hid hf; clear hf
   go_wp2
   have Bw := Hb.out
   refine res_cell_tmp (g := w.heap.size + 1) (cs := #[.int .i64 0, .int .i64 0, .int .i64 0]) rfl struct_nd rfl rfl (Blk.put3 X4) ⟨by rw [findNd, Hf.out]; rfl, ?_⟩
   repeat (first | with_reducible exact bR _ | with_reducible assumption | with_reducible refine bA ?_ _ | with_reducible refine bD ?_ | with_reducible refine bN ?_ _ | ((with_reducible refine bS ?_ ?_ _); rotate_left; (simp; try omega)) | ((with_reducible refine bT ?_ ?_); rotate_left; with_reducible assumption) | with_reducible refine bT ?_ (by assumption))

/-- A slice of points of the call's own. -/
def RetPts (w : World) (l : List Pt) (e : Ending) (w' : World) : Prop :=
 ∃ A c, e = .returned (.slice A l.length c) ∧ Below w.heap.size w w' ∧ Own w' w.heap.size 41 2 ptC (.slice A l.length c) l

set_option maxHeartbeats 400000 in
theorem Clone_pt_spec (v : Value) (l : List Pt) (w : World) (h : Pts w v l) (hl : l.length ≤ 1048576) :
  Calls Tryz.prog 72 #[v] w (RetPts w l) := by
 have H := h
 obtain ⟨A, c, rfl, hn, hc, hR⟩ := h
 have hE := Lib.run_eql_slice_nil (P := Tryz.prog) (t := 45) (e := 41)
 rcases A with _ | ad
 ·
  have hl0 : l = [] := by
   rcases l with _ | ⟨a, l⟩
   · rfl
   ·
    obtain ⟨b, o, e, _⟩ := hR (by simp [ptC])
    cases e
  subst hl0
  clear hR H
  simp only [List.length_nil] at hn ⊢
  have hE1 : ∀ W : World, (binOp .eql 45 (.slice none 0 c) (.slice none 0 0)).run Tryz.prog W = .ok (.bool true) W := fun W => Lib.run_eql_slice_nil W _ 41 none _ c 0 0 Tryz.underlying45
  clear hE
  go_enter Tryz.func72, Tryz.ntmps72
  go_wp2
  go_ret
  exact ⟨_, _, rfl, bR w, Own.nil _ _ _ _ _⟩
 ·
  have hE1 : ∀ W : World, (binOp .eql 45 (.slice (some ad) l.length c) (.slice none 0 0)).run Tryz.prog W = .ok (.bool false) W := fun W => Lib.run_eql_slice_nil W _ 41 (some ad) _ c 0 0 Tryz.underlying45
  clear hE hR
  have HH := Lib.hid H; clear H
  go_enter Tryz.func72, Tryz.ntmps72
  go_wp2_with
   (at_builtin
    refine wpList_appl _ rfl (.tmp 5) (.tmp 6) _ rfl (base := w.heap.size) elem_pt ptC_len ptC_one rfl (Own.lit _ _ _ _ ptC [] _ 0 _ rfl rfl (Nat.le_refl _) (le_maxLen (by omega)) rfl rfl) rfl (HH.out.mono (bA (bR w) _)) (by simp only [List.length_nil]; omega) (by simp only [List.length_nil]; omega) (by simp) ?_
    intro v1 w1 hown hg hat)
  go_ret
  obtain ⟨A1, c1, rfl, -⟩ := Own.sl hown
  simp only [List.nil_append] at hown ⊢
  exact ⟨A1, c1, rfl, bG (bA (bR w) _) hg (fun k hk => by have : w.heap.size = k := Option.some.inj hk; omega), hown⟩
end Go.Proofs.YtoclnkfeblfpbaaGreat
namespace Go.Proofs.YtoclnkfeblfpbaaGreat
open Go.RowKit

def findAr (l : List Ar) (id : Int) : Option Ar := l.find? (fun a => a.id == id)
def ar0 : Ar := ⟨0, 0, 0, [], 0, 0⟩
def ArRes (w : World) (r : Option Ar) (e : Ending) (w' : World) : Prop :=
 ∃ v', e = .returned (.tuple #[arV (r.getD ar0) v', .bool r.isSome]) ∧ Below w.heap.size w w' ∧ Pts w' v' (r.getD ar0).via
/-- No Via is very long. -/
def Short (p : Pl) : Prop := ∀ a ∈ p.arcs, a.via.length ≤ 1048576

theorem Sl.nil (w : World) : Sl w (.slice none 0 0) 0 [] := ⟨none, 0, rfl, Nat.le_refl _, le_maxLen (by omega), Row.nil⟩

theorem findAr_hit (al : List (Ar × Value)) (id : Int) (k : Nat) (hk : k < al.length) (h : ∀ j (hj : j < al.length), j < k → (al[j].1.id == id) = false) (he : (al[k].1.id == id) = true) :
  findAr (al.map (·.1)) id = some al[k].1 := by
 have := find_hit al (fun a => a.1.id == id) k hk h he
 rw [findAr, List.find?_map]
 show (al.find? (fun a => a.1.id == id)).map _ = _
 rw [this]
 rfl
theorem findAr_miss (al : List (Ar × Value)) (id : Int) (h : ∀ j (hj : j < al.length), (al[j].1.id == id) = false) : findAr (al.map (·.1)) id = none := by
 have := find_miss al (fun a => a.1.id == id) h
 rw [findAr, List.find?_map]
 show (al.find? (fun a => a.1.id == id)).map _ = _
 rw [this]
 rfl

set_option maxHeartbeats 4000000 in
theorem Arc_spec (v : Value) (p : Pl) (id : Int) (w : World) (h : PlV w v p) (hsh : Short p) :
  Calls Tryz.prog 45 #[v, .int .i64 id] w (ArRes w (findAr p.arcs id)) := by
 obtain ⟨vn, _, vf, al, rfl, hpa, -, ⟨⟨An, cn, rfl, hn1, hn2, hR⟩, hV⟩, -⟩ := h
 unfold maxLen at hn2
 unfold Short at hsh
 rw [hpa] at hsh ⊢
 clear hpa
 have hsh' : ∀ k (hk : k < al.length), al[k].1.via.length ≤ 1048576 := fun k hk => hsh _ (List.mem_map_of_mem (List.getElem_mem hk))
 have HV := Lib.hid hV; clear hV hsh
 have HSh := Lib.hid hsh'; clear hsh'
 go_enter Tryz.func45, Tryz.ntmps45
 go_wp2_with fail
 go_loopw [11] (fun i wr => ∃ k : Nat, k ≤ al.length ∧ i = .int .i64 k ∧ Below w.heap.size w wr ∧ Blk wr (w.heap.size + 1) 47 #[.int .i64 0, .int .i64 0, .int .i64 0, .slice none 0 0, .int .i64 0, .int .i64 0] ∧ ∀ j (hj : j < al.length), j < k → (al[j].1.id == id) = false) (fun i _ => al.length - (intOf i).toNat)
 case atStart => exact ⟨0, Nat.zero_le _, rfl, bA (bA (bR w) _) _, Blk.made (by simp) _ _, fun j _ h => by omega⟩
 case round =>
  obtain ⟨k, hk, rfl, hb, X4, hno⟩ := hrel
  have Hb := Lib.hid hb
  have Hno := Lib.hid hno
  clear hb hno
  obtain ⟨X4l, X4a, X4b, X4c, X4d, X4e, X4f, X4fa, X4fb, X4fc, X4fd, X4fe, X4ff⟩ := X4.facts6
  by_cases hlt : k < al.length
  ·
   obtain ⟨b, o, rfl, hlb, c0, c1, c2, c3, c4, c5⟩ := (hR.mono Hb.out).ar hlt
   have HR := Lib.hid hR; clear hR
   have hvk := (HV.out k hlt)
   obtain ⟨Av, cv, hv, -⟩ := hvk
   have hvk := (HV.out k hlt)
   rw [hv] at c3 hvk
   generalize hvl : al[k].1.via.length = vl at *
   have Hvl := Lib.hid hvl
   have Hvk := Lib.hid hvk; clear hvk hv hvl
   cases he : (al[k].1.id == id)
   ·
    go_wp2
    go_roundw
    case rel => exact ⟨k + 1, by omega, by go_num, bA Hb.out _, X4.alloc _, all_succ (p := fun x => (x.1.id == id) = false) Hno.out hlt he⟩
    case measure => simp [intOf]; omega
   ·
    have hf := findAr_hit al id k hlt Hno.out he
    have Hf := Lib.hid hf; clear hf
    go_wp2_with fail
    refine (Clone_pt_spec _ _ _ (Hvk.out.mono (bA Hb.out _)) (HSh.out k hlt)).mono ?_
    rintro e w1 ⟨A1, cc1, rfl, hb1, hown⟩
    have Bw : Below w.heap.size w w1 := bT (bA Hb.out _) hb1
    have X7 : Blk w1 wr.heap.size 47 #[.int .i64 al[k].1.id, .int .i64 al[k].1.fr,   .int .i64 al[k].1.dst, .slice Av vl cv, .int .i64 al[k].1.left, .int .i64 al[k].1.right] := (Blk.made rfl _ _).keep hb1
    have hw8 : w.heap.size + 1 < wr.heap.size := by omega
    have hw7 : w.heap.size + 1 ≠ wr.heap.size := by omega
    replace X4 := (X4.alloc _).keep hb1
    have hown' := hown.mono_base (b' := wr.heap.size + 1) (by simp)
    have hP := Own.sl hown
    have Hown := Lib.hid hown'
    clear hb1 c0 c1 c2 c3 c4 c5 hlb hown hown' hP
    try clear X4l
    try clear X4a
    try clear X4b
    try clear X4c
    try clear X4d
    try clear X4e
    try clear X4f
    try clear X4fa
    try clear X4fb
    try clear X4fc
    try clear X4fd
    try clear X4fe
    try clear X4ff
    obtain ⟨X4l, X4a, X4b, X4c, X4d, X4e, X4f, X4fa, X4fb, X4fc, X4fd, X4fe, X4ff⟩ := X4.facts6
    obtain ⟨X7l, X7a, X7b, X7c, X7d, X7e, X7f, X7fa, X7fb, X7fc, X7fd, X7fe, X7ff⟩ := X7.facts6
    go_wp2_with fail
    have hszr := Hb.out.size
    have ne7 : (Value.slice A1 al[k].1.via.length cc1).ownBlock ≠ some wr.heap.size := fun e => by have := (Hown.out.lt _ e).1; omega
    have ne4 : (Value.slice A1 al[k].1.via.length cc1).ownBlock ≠ some (w.heap.size + 1) := fun e => by have := (Hown.out.lt _ e).1; omega
    have HP := Own.sl (((((((Hown.out.far (p := ⟨wr.heap.size, 3, none⟩) ne7 (.slice A1 al[k].1.via.length cc1)).far (p := ⟨w.heap.size + 1, 0, none⟩) ne4 (.int .i64 al[k].1.id)).far (p := ⟨w.heap.size + 1, 1, none⟩) ne4 (.int .i64 al[k].1.fr)).far (p := ⟨w.heap.size + 1, 2, none⟩) ne4 (.int .i64 al[k].1.dst)).far (p := ⟨w.heap.size + 1, 3, none⟩) ne4 (.slice A1 al[k].1.via.length cc1)).far (p := ⟨w.heap.size + 1, 4, none⟩) ne4 (.int .i64 al[k].1.left)).far (p := ⟨w.heap.size + 1, 5, none⟩) ne4 (.int .i64 al[k].1.right))
    refine res_cell_tmp (g := w.heap.size + 1) (cs := #[.int .i64 al[k].1.id, .int .i64 al[k].1.fr, .int .i64 al[k].1.dst, .slice A1 al[k].1.via.length cc1, .int .i64 al[k].1.left, .int .i64 al[k].1.right]) rfl struct_ar rfl rfl (Blk.put6 (X4.far (p := ⟨wr.heap.size, 3, none⟩) hw7 _)) ⟨.slice A1 al[k].1.via.length cc1, by rw [Hf.out]; rfl, ?_, by rw [Hf.out]; exact HP⟩
    repeat (first | with_reducible exact bR _ | with_reducible assumption | with_reducible refine bA ?_ _ | with_reducible refine bD ?_ | with_reducible refine bN ?_ _ | ((with_reducible refine bS ?_ ?_ _); rotate_left; (simp; try omega)) | ((with_reducible refine bT ?_ ?_); rotate_left; with_reducible assumption) | with_reducible refine bT ?_ (by assumption))
  ·
   have hf := findAr_miss al id (fun j hj => Hno.out j hj (by omega))
   have Hf := Lib.hid hf; clear hf
   go_wp2
   have Bw := Hb.out
   refine res_cell_tmp (g := w.heap.size + 1) (cs := #[.int .i64 0, .int .i64 0, .int .i64 0, .slice none 0 0, .int .i64 0, .int .i64 0]) rfl struct_ar rfl rfl (Blk.put6 X4) ⟨.slice none 0 0, by rw [Hf.out]; rfl, ?_, by rw [Hf.out]; exact Sl.nil _⟩
   repeat (first | with_reducible exact bR _ | with_reducible assumption | with_reducible refine bA ?_ _ | with_reducible refine bD ?_ | with_reducible refine bN ?_ _ | ((with_reducible refine bS ?_ ?_ _); rotate_left; (simp; try omega)) | ((with_reducible refine bT ?_ ?_); rotate_left; with_reducible assumption) | with_reducible refine bT ?_ (by assumption))
end Go.Proofs.YtoclnkfeblfpbaaGreat
