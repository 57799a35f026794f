/- PLAIN: the expected crossings of a path whose inner points lie in the box: one as it comes in, one as it goes out. PLAIN: the run at which a piece comes in, found from the piece alone, is the one that the path shows. PLAIN: the run at which a piece comes in, found from the piece alone, is the one that the path shows: the proof. Plain law: the order of directions around a point. No walk here. -/
import Derived.Test.YtfdbidagdjnipaaGreatDoorJ25
import Derived.Test.YtfdbidagdjnipaaGreatDoorJ06
set_option linter.unusedSimpArgs false
set_option linter.unusedVariables false
namespace Go.Proofs.YtfdbidagdjnipaaGreatDoor

/-- no two neighbours are equal -/
def NRp (l : List Pt) : Prop := ∀ k, k + 1 < l.length → l.getD k pt0 ≠ l.getD (k + 1) pt0
theorem NRp.tail {a : Pt} {l : List Pt} (h : NRp (a :: l)) : NRp l := fun k hk => by
 have := h (k + 1) (by simp only [List.length_cons]; omega)
 simpa only [List.getD_cons_succ] using this
theorem NRp.pre {l m : List Pt} (h : NRp (l ++ m)) : NRp l := fun k hk => by
 have e : ∀ j, j < l.length → (l ++ m).getD j pt0 = l.getD j pt0 := fun j hj => by
  rw [List.getD_eq_getElem?_getD, List.getD_eq_getElem?_getD, List.getElem?_append_left hj]
 have := h k (by rw [List.length_append]; omega)
 rw [e _ (by omega), e _ (by omega)] at this
 exact this
theorem NRp.suf {m : List Pt} : ∀ {l : List Pt}, NRp (l ++ m) → NRp m
 | [], h => h
 | _ :: l, h => NRp.suf (l := l) (NRp.tail h)

theorem inner_off {g : Ed} {q : Pt} (h : innerS g q = true) : onE g q = false := by
 cases ho : onE g q
 · rfl
 ·
  unfold onE at ho
  rw [decide_eq_true_iff] at ho
  unfold innerS at h
  rw [ho] at h
  split at h <;> simp at h
theorem out_kind {g : Ed} {q : Pt} (h : outE g q = true) : onE g q = false ∧ innerS g q = false := by
 unfold outE at h
 simpa using h
theorem not_out {g : Ed} {q : Pt} (h : outE g q = false) : onE g q = true ∨ innerS g q = true := by
 unfold outE at h
 cases h1 : onE g q
 ·
  cases h2 : innerS g q
  · rw [h1, h2] at h; cases h
  · exact .inr rfl
 · exact .inl rfl
section
variable {g : Ed} {ns : List Nd} {id : Int}
theorem exp_none_on {q : Pt} {l : List Pt} (h : onE g q = true) : expR g ns id none (q :: l) = expR g ns id none l := by rw [expR, if_pos h]
theorem exp_none_off {q : Pt} {l : List Pt} (h : onE g q = false) : expR g ns id none (q :: l) = expR g ns id (some (q, [])) l := by rw [expR, if_neg (by rw [h]; simp)]
theorem exp_on {m : Pt} {R : List Pt} {q : Pt} {l : List Pt} (h : onE g q = true) : expR g ns id (some (m, R)) (q :: l) = expR g ns id (some (m, R ++ [q])) l := by rw [expR, if_pos h]
theorem exp_off {m : Pt} {R : List Pt} {q : Pt} {l : List Pt} (h : onE g q = false) : expR g ns id (some (m, R)) (q :: l) = (if innerS g m ≠ innerS g q then crO g ns id (if innerS g m then 1 else 0) (runO g m R q) else []) ++ expR g ns id (some (q, [])) l := by rw [expR, if_neg (by rw [h]; simp)]
theorem exp_nil (st : Option (Pt × List Pt)) : expR g ns id st [] = [] := by cases st <;> rfl

/-- a run with a point beyond the ends is dead -/
theorem exp_dead {v : Pt} (hv : ¬ rngE g v) : ∀ (t : List Pt) (m : Pt) (R : List Pt), v ∈ R → (∀ q ∈ R, onE g q = true) → MonoE g (R ++ t) → NRp (R ++ t) → expR g ns id (some (m, R)) t = expR g ns id none t
 | [], m, R, _, _, _, _ => by rw [exp_nil, exp_nil]
 | q :: t, m, R, hvR, hon, hm, hn => by
  cases ho : onE g q
  ·
   rw [exp_off ho, exp_none_off ho]
   have hR : R ≠ [] := fun e => by rw [e] at hvR; cases hvR
   have hc : crO g ns id (if innerS g m then 1 else 0) (runO g m R q) = [] := by
    unfold crO runO
    rw [if_neg hR, if_neg]
    intro hop
    exact hv (open_rng hm.pre hon hn.pre hop v hvR)
   rw [hc]
   simp
  ·
   rw [exp_on ho, exp_none_on ho]
   exact exp_dead hv t m (R ++ [q]) (List.mem_append_left _ hvR) (fun x hx => (List.mem_append.1 hx).elim (hon x) (fun h => by rw [List.mem_singleton] at h; subst h; exact ho)) (by rw [List.append_assoc]; exact hm) (by rw [List.append_assoc]; exact hn)
def rnS : Option (Pt × List Pt) → List Pt
 | none => []
 | some (_, R) => R
/-- a path may be divided at a point beyond the ends of the edge or off its line -/
theorem exp_split {v : Pt} (hv : onE g v = true → ¬ rngE g v) (t : List Pt) : ∀ (A : List Pt) (st : Option (Pt × List Pt)), (∀ q ∈ rnS st, onE g q = true) → MonoE g (rnS st ++ (A ++ v :: t)) → NRp (rnS st ++ (A ++ v :: t)) →
  expR g ns id st (A ++ v :: t) = expR g ns id st (A ++ [v]) ++ expR g ns id none (v :: t)
 | [], st, hon, hm, hn => by
  rw [List.nil_append, List.nil_append]
  cases ho : onE g v
  · cases st with
   | none => rw [exp_none_off ho, exp_none_off ho, exp_nil, List.nil_append]
   | some s =>
    obtain ⟨m, R⟩ := s
    rw [exp_off ho, exp_off ho, exp_nil, List.append_nil, exp_none_off ho]
  · cases st with
   | none => rw [exp_none_on ho, exp_none_on ho, exp_nil, List.nil_append]
   | some s =>
    obtain ⟨m, R⟩ := s
    rw [exp_on ho, exp_on ho, exp_nil, List.nil_append, exp_none_on ho]
    exact exp_dead (hv ho) t m (R ++ [v]) (by simp) (fun x hx => (List.mem_append.1 hx).elim (hon x) (fun h => by rw [List.mem_singleton] at h; subst h; exact ho)) (by rw [List.append_assoc]; exact hm) (by rw [List.append_assoc]; exact hn)
 | q :: A, st, hon, hm, hn => by
  rw [List.cons_append, List.cons_append]
  have step : ∀ st', (∀ q ∈ rnS st', onE g q = true) → MonoE g (rnS st' ++ (A ++ v :: t)) → NRp (rnS st' ++ (A ++ v :: t)) → _ := fun st' a b c => exp_split hv t A st' a b c
  cases ho : onE g q
  ·
   have s1 := step (some (q, [])) (fun x hx => by cases hx) (MonoE.tail (MonoE.suf hm)) (NRp.tail (NRp.suf hn))
   cases st with
   | none => rw [exp_none_off ho, exp_none_off ho, s1]
   | some s =>
    obtain ⟨m, R⟩ := s
    rw [exp_off ho, exp_off ho, s1, List.append_assoc]
  · cases st with
   | none => rw [exp_none_on ho, exp_none_on ho]; exact step none hon (MonoE.tail hm) (NRp.tail hn)
   | some s =>
    obtain ⟨m, R⟩ := s
    rw [exp_on ho, exp_on ho]
    refine step (some (m, R ++ [q])) (fun x hx => (List.mem_append.1 hx).elim (hon x) (fun h => by rw [List.mem_singleton] at h; subst h; exact ho)) ?_ ?_
    · show MonoE g ((R ++ [q]) ++ (A ++ v :: t)); rw [List.append_assoc]; exact hm
    · show NRp ((R ++ [q]) ++ (A ++ v :: t)); rw [List.append_assoc]; exact hn

/- ## the crossings of p, points in the box, e -/
/-- the run at which it comes in, if it does -/
def enRun (g : Ed) (p : Pt) (m : List Pt) (e : Pt) : List Pt :=
 if outE g p = true then (match m.dropWhile (onE g) with
  | u :: _ => runO g p (m.takeWhile (onE g)) u
  | [] => if innerS g e = true then runO g p m e else []) else []
theorem meet_comm {b : Bx} {side : Int} (hg : edOf b side = some g) {p q : Pt} (h : acrossS g p ≠ acrossS g q) : meetP g p q = meetP g q p := by
 unfold acrossS at h
 unfold meetP
 cases hu : g.upright
 ·
  rw [hu] at h
  simp only [Bool.false_eq_true, if_false] at h ⊢
  rw [atx_rev (a := turnP q) (b := turnP p) (by unfold turnP; simp only; omega)]
 ·
  rw [hu] at h
  simp only [if_true] at h ⊢
  rw [atx_rev (a := q) (b := p) (by omega)]
theorem across_ne {p q : Pt} (hp : outE g p = true) (hq : innerS g q = true) : acrossS g p ≠ acrossS g q := by
 intro e
 have h := (out_kind hp).2
 unfold innerS at h hq
 rw [e] at h
 rw [h] at hq
 cases hq
theorem run_turn {b : Bx} {side : Int} (hg : edOf b side = some g) {p q : Pt} (hp : outE g p = true) (hq : innerS g q = true) (R : List Pt) : (runO g p R.reverse q).reverse = runO g q R p := by
 unfold runO
 by_cases h : R = []
 ·
  subst h
  rw [List.reverse_nil, if_pos rfl, if_pos rfl, List.reverse_singleton, meet_comm hg (across_ne hp hq)]
 · rw [if_neg h, if_neg (by simpa using h), List.reverse_reverse]
theorem exp_run_on : ∀ (A : List Pt), (∀ q ∈ A, onE g q = true) → ∀ (m : Pt) (R t : List Pt), expR g ns id (some (m, R)) (A ++ t) = expR g ns id (some (m, R ++ A)) t
 | [], _, m, R, t => by simp
 | q :: A, h, m, R, t => by
  rw [List.cons_append, exp_on (h q (by simp)), exp_run_on A (fun x hx => h x (by simp [hx])), List.append_assoc]
  rfl
theorem exp_none_run : ∀ (A : List Pt), (∀ q ∈ A, onE g q = true) → ∀ (t : List Pt), expR g ns id none (A ++ t) = expR g ns id none t
 | [], _, t => rfl
 | q :: A, h, t => by
  rw [List.cons_append, exp_none_on (h q (by simp)), exp_none_run A (fun x hx => h x (by simp [hx]))]
theorem exp_end {m : Pt} {R : List Pt} {e : Pt} : expR g ns id (some (m, R)) [e] = if onE g e = true then [] else if innerS g m ≠ innerS g e then crO g ns id (if innerS g m then 1 else 0) (runO g m R e) else [] := by
 cases ho : onE g e
 ·
  rw [exp_off ho, exp_nil, List.append_nil]
  simp
 ·
  rw [exp_on ho, exp_nil]
  simp
theorem ho_simp {u e : Pt} {B : List Pt} (hu : innerS g u = true) : (if onE g e = true then [] else if innerS g u ≠ innerS g e then crO g ns id (if innerS g u then 1 else 0) (runO g u B e) else []) = if outE g e = true then crO g ns id 1 (runO g u B e) else [] := by
 cases ho : onE g e
 ·
  cases hi : innerS g e
  ·
   have h : outE g e = true := by unfold outE; rw [ho, hi]; rfl
   simp [hu, h]
  ·
   have h : outE g e = false := by unfold outE; rw [ho, hi]; rfl
   simp [hu, h]
 ·
  have h : outE g e = false := by unfold outE; rw [ho]; rfl
  simp [h]
/-- from an inner point on: only the way out counts -/
theorem exp_inner {u : Pt} {B : List Pt} {e : Pt} (hu : innerS g u = true) (hB : ∀ q ∈ B, onE g q = true) : ∀ (m1 : List Pt), (∀ q ∈ m1, outE g q = false) → ∀ (x : Pt) (R : List Pt), innerS g x = true →
  expR g ns id (some (x, R)) (m1 ++ u :: (B ++ [e])) = if outE g e = true then crO g ns id 1 (runO g u B e) else []
 | [], _, x, R, hx => by
  rw [List.nil_append, exp_off (inner_off hu), hx, hu, if_neg (show ¬ (true ≠ true) by simp), List.nil_append, exp_run_on B hB, List.nil_append, exp_end, ho_simp hu]
 | q :: m1, hm, x, R, hx => by
  have hm' : ∀ y ∈ m1, outE g y = false := fun y hy => hm y (by simp [hy])
  rw [List.cons_append]
  cases ho : onE g q
  ·
   have hi : innerS g q = true := by
    rcases not_out (hm q (by simp)) with h | h
    · rw [h] at ho; cases ho
    · exact h
   rw [exp_off ho, hx, hi, if_neg (by simp), List.nil_append, exp_inner hu hB m1 hm' q [] hi]
  · rw [exp_on ho, exp_inner hu hB m1 hm' x _ hx]
theorem exp_none_inner {u : Pt} {B : List Pt} {e : Pt} (hu : innerS g u = true) (hB : ∀ q ∈ B, onE g q = true) : ∀ (m1 : List Pt), (∀ q ∈ m1, outE g q = false) →
  expR g ns id none (m1 ++ u :: (B ++ [e])) = if outE g e = true then crO g ns id 1 (runO g u B e) else []
 | [], _ => by
  have h := exp_inner (ns := ns) (id := id) (e := e) hu hB [] (fun q hq => by cases hq) u [] hu
  rw [List.nil_append, exp_off (inner_off hu), if_neg (by simp), List.nil_append] at h
  rw [List.nil_append, exp_none_off (inner_off hu)]
  exact h
 | q :: m1, hm => by
  have hm' : ∀ y ∈ m1, outE g y = false := fun y hy => hm y (by simp [hy])
  rw [List.cons_append]
  cases ho : onE g q
  ·
   have hi : innerS g q = true := by
    rcases not_out (hm q (by simp)) with h | h
    · rw [h] at ho; cases ho
    · exact h
   rw [exp_none_off ho, exp_inner hu hB m1 hm' q [] hi]
  · rw [exp_none_on ho, exp_none_inner hu hB m1 hm']
theorem tw_mem {α : Type} {f : α → Bool} {l : List α} {x : α} (h : x ∈ l.takeWhile f) : f x = true := by
 induction l with
 | nil => cases h
 | cons a l ih =>
  rw [List.takeWhile_cons] at h
  split at h
  ·
   rcases List.mem_cons.1 h with rfl | h
   · assumption
   · exact ih h
  · cases h
theorem dw_head {α : Type} {f : α → Bool} {l : List α} {u : α} {r : List α} (h : l.dropWhile f = u :: r) : f u = false := by
 induction l with
 | nil => cases h
 | cons a l ih =>
  rw [List.dropWhile_cons] at h
  split at h
  · exact ih h
  ·
   injection h with h1 h2
   subst h1
   exact Bool.eq_false_iff.2 (by assumption)
theorem dw_nil {α : Type} {f : α → Bool} {l : List α} (h : l.dropWhile f = []) : ∀ x ∈ l, f x = true := by
 intro x hx
 have e := List.takeWhile_append_dropWhile (p := f) (l := l)
 rw [h, List.append_nil] at e
 rw [← e] at hx
 exact tw_mem hx
theorem tw_all {α : Type} {f : α → Bool} {l : List α} (h : ∀ x ∈ l, f x = true) : l.takeWhile f = l ∧ l.dropWhile f = [] := by
 induction l with
 | nil => exact ⟨rfl, rfl⟩
 | cons a l ih =>
  obtain ⟨h1, h2⟩ := ih (fun x hx => h x (by simp [hx]))
  rw [List.takeWhile_cons, List.dropWhile_cons, h a (by simp), if_pos rfl, if_pos rfl, h1, h2]
  exact ⟨rfl, rfl⟩
/-- the whole -/
theorem exp_mid {b : Bx} {side : Int} (hg : edOf b side = some g) {p e : Pt} {m : List Pt} (hm : ∀ q ∈ m, outE g q = false) :
  expR g ns id none (p :: (m ++ [e])) = crO g ns id 0 (enRun g p m e) ++ crO g ns id 1 (enRun g e m.reverse p).reverse := by
 have hnil : ∀ o, crO g ns id o [] = [] := fun o => by unfold crO openS; simp
 cases hd : m.dropWhile (onE g) with
 | nil =>
  have hall := dw_nil hd
  have hrall : ∀ x ∈ m.reverse, onE g x = true := fun x hx => hall x (List.mem_reverse.1 hx)
  have hrd := (tw_all hrall).2
  have hen : enRun g p m e = if outE g p = true then (if innerS g e = true then runO g p m e else []) else [] := by unfold enRun; rw [hd]
  have hlv : enRun g e m.reverse p = if outE g e = true then (if innerS g p = true then runO g e m.reverse p else []) else [] := by unfold enRun; rw [hrd]
  rw [hen, hlv]
  cases ho : onE g p
  ·
   rw [exp_none_off ho, exp_run_on m hall, List.nil_append, exp_end]
   cases hpi : innerS g p
   ·
    have hpo : outE g p = true := by unfold outE; rw [ho, hpi]; rfl
    cases hei : innerS g e
    · simp [hpo, hnil]
    ·
     have heo := inner_off hei
     have hee : outE g e = false := by unfold outE; rw [hei]; simp
     simp [hpo, hee, heo, hnil]
   ·
    have hpo : outE g p = false := by unfold outE; rw [hpi]; simp
    cases hee : outE g e
    ·
     rcases not_out hee with h | h
     · simp [hpo, h, hnil]
     ·
      have := inner_off h
      simp [hpo, h, this, hnil]
    ·
     obtain ⟨heo, hei⟩ := out_kind hee
     have := run_turn hg hee hpi m
     simp [hpo, heo, hei, hnil, this]
  ·
   rw [exp_none_on ho, exp_none_run m hall]
   have hpo : outE g p = false := by unfold outE; rw [ho]; rfl
   have hpi : innerS g p = false := by
    cases h : innerS g p
    · rfl
    · have := inner_off h; rw [this] at ho; cases ho
   rw [hpo, hpi]
   have : expR g ns id none [e] = [] := by
    cases he : onE g e
    · rw [exp_none_off he, exp_nil]
    · rw [exp_none_on he, exp_nil]
   rw [this]
   simp [hnil]
 | cons u m2 =>
  have huo := dw_head hd
  have hA : ∀ q ∈ m.takeWhile (onE g), onE g q = true := fun q hq => tw_mem hq
  have hme := (List.takeWhile_append_dropWhile (p := onE g) (l := m)).symm
  rw [hd] at hme
  have hui : innerS g u = true := by
   rcases not_out (hm u (by rw [hme]; simp)) with h | h
   · rw [h] at huo; cases huo
   · exact h
  obtain ⟨u', m1, hrd⟩ : ∃ u' m1, m.reverse.dropWhile (onE g) = u' :: m1 := by
   cases h : m.reverse.dropWhile (onE g) with
   | nil => have := dw_nil h u (by rw [List.mem_reverse, hme]; simp); rw [this] at huo; cases huo
   | cons a l => exact ⟨a, l, rfl⟩
  have hu'o := dw_head hrd
  have hrme := (List.takeWhile_append_dropWhile (p := onE g) (l := m.reverse)).symm
  rw [hrd] at hrme
  obtain ⟨B, hBe⟩ : ∃ B, m.reverse.takeWhile (onE g) = B.reverse := ⟨(m.reverse.takeWhile (onE g)).reverse, by simp⟩
  have hB : ∀ q ∈ B, onE g q = true := fun q hq => tw_mem (f := onE g) (l := m.reverse) (by rw [hBe]; exact List.mem_reverse.2 hq)
  rw [hBe] at hrme
  have hme2 : m = m1.reverse ++ u' :: B := by
   have := congrArg List.reverse hrme
   rw [List.reverse_reverse] at this
   rw [this]
   simp
  have hu'i : innerS g u' = true := by
   rcases not_out (hm u' (by rw [hme2]; simp)) with h | h
   · rw [h] at hu'o; cases hu'o
   · exact h
  have hm1 : ∀ q ∈ m1.reverse, outE g q = false := fun q hq => hm q (by rw [hme2]; exact List.mem_append_left _ hq)
  have hml : m ++ [e] = m1.reverse ++ u' :: (B ++ [e]) := by
   conv => lhs; rw [hme2]
   simp
  have hlv : crO g ns id 1 (enRun g e m.reverse p).reverse = if outE g e = true then crO g ns id 1 (runO g u' B e) else [] := by
   unfold enRun
   rw [hrd, hBe]
   cases hee : outE g e
   · simp [hnil]
   ·
    rw [if_pos rfl, if_pos rfl]
    simp only
    rw [run_turn hg hee hu'i]
  have hnone : expR g ns id none (m ++ [e]) = if outE g e = true then crO g ns id 1 (runO g u' B e) else [] := by
   rw [hml]; exact exp_none_inner hu'i hB _ hm1
  rw [hlv, ← hnone]
  have hen : enRun g p m e = if outE g p = true then runO g p (m.takeWhile (onE g)) u else [] := by unfold enRun; rw [hd]
  rw [hen]
  cases ho : onE g p
  ·
   rw [exp_none_off ho]
   cases hpi : innerS g p
   ·
    have hpo : outE g p = true := by unfold outE; rw [ho, hpi]; rfl
    rw [if_pos hpo]
    have hsp : m ++ [e] = m.takeWhile (onE g) ++ u :: (m2 ++ [e]) := by
     conv => lhs; rw [hme]
     simp
    rw [hsp, exp_run_on _ hA, List.nil_append, exp_off huo, if_pos (by rw [hpi, hui]; simp), hpi, exp_none_run _ hA, exp_none_off huo]
    rfl
   ·
    have hpo : outE g p = false := by unfold outE; rw [hpi]; simp
    rw [if_neg (by rw [hpo]; simp), hnil, List.nil_append, hnone, hml]
    exact exp_inner hu'i hB _ hm1 p [] hpi
  ·
   have hpo : outE g p = false := by unfold outE; rw [ho]; rfl
   rw [exp_none_on ho, hpo, if_neg (by simp), hnil, List.nil_append]
end
end Go.Proofs.YtfdbidagdjnipaaGreatDoor
namespace Go.Proofs.YtfdbidagdjnipaaGreatDoor

section
variable {g : Ed} {ns : List Nd}
theorem open_pos {l : List Pt} (h : openS g ns l = true) : l ≠ [] ∧ rngE g (firstP l) ∧ rngE g (lastP l) := by
 unfold openS strictS at h
 simp only [Bool.and_eq_true, decide_eq_true_eq] at h
 obtain ⟨h1, ⟨-, h2⟩, -, h3⟩ := h
 exact ⟨fun e => by subst e; simp at h1, h2, h3⟩
theorem open_head {x : Pt} {l : List Pt} (h : openS g ns (x :: l) = true) : rngE g x := (open_pos h).2.1
theorem open_nil : openS g ns [] = false := rfl
theorem first_rev (l : List Pt) : firstP l.reverse = lastP l ∧ lastP l.reverse = firstP l := by
 unfold firstP lastP
 cases l with
 | nil => exact ⟨rfl, rfl⟩
 | cons a r =>
  constructor
  · rw [List.getD_eq_getElem?_getD, List.getD_eq_getElem?_getD, List.getElem?_reverse (by simp)]; rfl
  ·
   rw [List.getD_eq_getElem?_getD, List.getD_eq_getElem?_getD, List.getElem?_reverse (by simp), List.length_reverse]
   simp
theorem open_rev (l : List Pt) : openS g ns l.reverse = openS g ns l := by
 unfold openS
 rw [(first_rev l).1, (first_rev l).2, List.length_reverse, Bool.and_comm (strictS g ns (lastP l))]
/-- equal, if one of them is open -/
def EqO (g : Ed) (ns : List Nd) (A B : List Pt) : Prop := (openS g ns A = true → A = B) ∧ (openS g ns B = true → A = B)
theorem EqO.refl (A : List Pt) : EqO g ns A A := ⟨fun _ => rfl, fun _ => rfl⟩
theorem EqO.of {A B : List Pt} (h1 : ¬ openS g ns A = true) (h2 : ¬ openS g ns B = true) : EqO g ns A B := ⟨fun h => absurd h h1, fun h => absurd h h2⟩
theorem EqO.cr {A B : List Pt} (h : EqO g ns A B) (id o : Int) : crO g ns id o A = crO g ns id o B := by
 unfold crO
 by_cases ha : openS g ns A = true
 · rw [h.1 ha]
 ·
  by_cases hb : openS g ns B = true
  · rw [h.2 hb]
  · rw [if_neg ha, if_neg hb]
theorem EqO.rev {A B : List Pt} (h : EqO g ns A B) : EqO g ns A.reverse B.reverse := by
 refine ⟨fun ho => ?_, fun ho => ?_⟩
 · rw [open_rev] at ho; rw [h.1 ho]
 · rw [open_rev] at ho; rw [h.2 ho]
/- ## enterS, by what the path is -/
theorem enter_ne {y : Pc} (h : y.enter ≠ g.side) : enterS g y = [] := by unfold enterS; rw [if_pos h]
theorem enter_all {y : Pc} (h : y.enter = g.side) (ha : ∀ q ∈ y.path, onE g q = true) : enterS g y = if y.leave = 0 ∨ y.leave = g.side then [] else y.path.take (if 1 < y.path.length then y.path.length - 1 else y.path.length) := by
 unfold enterS
 rw [if_neg (fun e => e h), if_pos ((leadN_all g y.path).2 (by rw [List.all_eq_true]; exact ha))]
theorem enter_some {y : Pc} (h : y.enter = g.side) {A : List Pt} {u : Pt} {r : List Pt} (hp : y.path = A ++ u :: r) (hA : ∀ q ∈ A, onE g q = true) (hu : onE g u = false) : enterS g y = A := by
 have hl : leadN g y.path = A.length := by
  unfold leadN
  rw [hp, List.takeWhile_append_of_pos hA, List.takeWhile_cons, hu]
  simp
 unfold enterS
 rw [if_neg (fun e => e h), hl, if_neg (by rw [hp]; simp), hp, List.take_left]
end
theorem NRp.noRep {l : List Pt} (h : NRp l) : NoRep l := by
 intro k hk
 have := h k hk
 rw [List.getD_eq_getElem?_getD, List.getD_eq_getElem?_getD, List.getElem?_eq_getElem (by omega), List.getElem?_eq_getElem hk] at this
 exact this
theorem cmpP_ends {c d q k : Pt} {m : List Pt} (hn : NRp m) (hq : m.head? = some q) (hk : m.getLast? = some k) : cmpP (c :: (m ++ [d])) = (if c = q then [] else [c]) ++ (m ++ (if k = d then [] else [d])) := by
 have hm := cmpP_id hn.noRep
 have hh : (m ++ [d]).head? = some q := by cases m with
  | nil => cases hq
  | cons a r => exact hq
 rw [cmpP_cons', hh, cmpP_snoc, hm, hk]
 simp only [Option.some.injEq]
 by_cases e1 : q = c <;> by_cases e2 : k = d
 · rw [if_pos e1, if_pos e2, if_pos e1.symm, if_pos e2]; simp
 · rw [if_pos e1, if_neg e2, if_pos e1.symm, if_neg e2]; simp
 · rw [if_neg e1, if_pos e2, if_neg (fun h => e1 h.symm), if_pos e2]; simp
 · rw [if_neg e1, if_neg e2, if_neg (fun h => e1 h.symm), if_neg e2]; simp

/- ## the way out at the other end -/
theorem sd_ed {b : Bx} {s : Int} {c : Pt} (h : onSd b s c) (h0 : s ≠ 0) : ∃ k, edOf b s = some k := by
 unfold edOf
 rcases h with ⟨rfl, -⟩ | ⟨rfl, -⟩ | ⟨rfl, -⟩ | ⟨rfl, -⟩ | h
 · exact ⟨_, rfl⟩
 · exact ⟨_, rfl⟩
 · exact ⟨_, rfl⟩
 · exact ⟨_, rfl⟩
 · exact absurd h h0
/-- a segment through another side ends at no point strictly within this edge -/
theorem tail_rng {e x d z : Pt} {b : Bx} (hx : b.x0 < b.x1) (hy : b.y0 < b.y1) {side : Int} {g : Ed} (hg : edOf b side = some g) (he : innerS g e = true) (hc : clipS e x b = some (d, z)) (hd : onE g d = true) : ¬ rngE g d := by
 intro hr
 have hs : side = 1 ∨ side = 2 ∨ side = 3 ∨ side = 4 := by obtain ⟨-, h⟩ := ed_cases hg; omega
 cases hin : inB b e
 case true =>
  have := clip_first hc hin
  subst this
  rw [inner_off he] at hd
  cases hd
 rw [in_iffE hg] at he
 rw [on_iffE hg] at hd
 rw [rng_iffE hg] at hr
 have hon := through_on hx hy hc
 by_cases h0 : throughS e x b = 0
 ·
  obtain ⟨n1, d1, n2, d2, -, h1, h2, -, -⟩ := thr_corner hx hy hin hc h0
  omega
 ·
  obtain ⟨k, hk⟩ := sd_ed hon h0
  have ho := thr_out hx hy hk hc rfl
  rw [out_iff hk] at ho
  unfold onSd at hon
  generalize throughS e x b = s at *
  omega
/-- through a corner that is the segment's end: no side -/
theorem thr_two {e k : Pt} {b : Bx} (hx : b.x0 < b.x1) (hy : b.y0 < b.y1) {side s : Int} {g h : Ed} (hg : edOf b side = some g) (hh : edOf b s = some h) (he : innerS g e = true) (hk : inB b k = true) (hkg : onE g k = true) (hkh : onE h k = true) (hoe : outE h e = true) : throughS e k b ≠ s := by
 have hin := out_notin hh hoe
 have hs : side = 1 ∨ side = 2 ∨ side = 3 ∨ side = 4 := by obtain ⟨-, h⟩ := ed_cases hg; omega
 have hss : s = 1 ∨ s = 2 ∨ s = 3 ∨ s = 4 := by obtain ⟨-, h⟩ := ed_cases hh; omega
 have hP : Par 1 1 := ⟨by decide, by decide, by decide⟩
 have hI : InQ e k b 1 1 := in_box_Q1 hk
 rw [through_eq hx hy hin hP hI]
 rw [in_iffE hg] at he
 rw [on_iffE hg] at hkg
 rw [on_iffE hh] at hkh
 rw [out_iff hh] at hoe
 obtain ⟨x1, x2, -⟩ := clx_out (p := e) (q := k) hx
 obtain ⟨y1, y2, -⟩ := cly_out (p := e) (q := k) hy
 have hsx := cl_side_x (p := e) (q := k) (b := b)
 have hsy := cl_side_y (p := e) (q := k) (b := b)
 have hX : s = 1 ∨ s = 3 → (clSideX e k b).2.1 = (clSideX e k b).2.2 ∧ (k.y = b.y0 ∨ k.y = b.y1) := by
  intro h
  rcases h with rfl | rfl
  · rw [x1 (by omega)]; exact ⟨by show b.x0 - e.x = k.x - e.x; omega, by omega⟩
  · rw [x2 (by omega)]; exact ⟨by show e.x - b.x1 = e.x - k.x; omega, by omega⟩
 have hY : s = 2 ∨ s = 4 → (clSideY e k b).2.1 = (clSideY e k b).2.2 ∧ (k.x = b.x0 ∨ k.x = b.x1) := by
  intro h
  rcases h with rfl | rfl
  · rw [y1 (by omega)]; exact ⟨by show b.y0 - e.y = k.y - e.y; omega, by omega⟩
  · rw [y2 (by omega)]; exact ⟨by show e.y - b.y1 = e.y - k.y; omega, by omega⟩
 unfold clSide
 simp only
 rcases (show (s = 1 ∨ s = 3) ∨ (s = 2 ∨ s = 4) by omega) with h | h
 ·
  obtain ⟨e1, e2⟩ := hX h
  split
  ·
   rw [if_pos]
   · omega
   ·
    rw [e1]
    rcases e2 with e2 | e2
    · left; rw [e2]
    · right; rw [e2]
  ·
   split
   · omega
   · omega
 ·
  obtain ⟨e1, e2⟩ := hY h
  split
  ·
   split
   · omega
   · omega
  ·
   rw [if_pos]
   · omega
   ·
    right
    rw [e1]
    rcases e2 with e2 | e2
    · left; rw [e2]
    · right; rw [e2]
/-- the end itself on the edge's line: number 0 -/
theorem thr_end {e k : Pt} {b : Bx} (hx : b.x0 < b.x1) (hy : b.y0 < b.y1) {side : Int} {g : Ed} (hg : edOf b side = some g) (he : innerS g e = true) (hk : inB b k = true) (hkg : onE g k = true) (hc : clipS e k b = some (k, k)) : throughS e k b = 0 := by
 apply Classical.byContradiction
 intro h0
 have hon := through_on hx hy hc
 obtain ⟨h, hh⟩ := sd_ed hon h0
 have ho := thr_out hx hy hh hc rfl
 refine thr_two hx hy hg hh he hk hkg ?_ ho rfl
 rw [on_iffE hh]
 unfold onSd at hon
 omega
/-- both on the line: so is the part -/
theorem clip_along {e k d z : Pt} {b : Bx} (hx : b.x0 < b.x1) (hy : b.y0 < b.y1) {side : Int} {g : Ed} (hg : edOf b side = some g) (he : onE g e = true) (hk : inB b k = true) (hkg : onE g k = true) (hc : clipS e k b = some (d, z)) : onE g d = true := by
 cases hin : inB b e
 case true => rw [clip_first hc hin]; exact he
 have h0 : throughS e k b = 0 := by
  rcases thr_line hx hy hg hk hkg (.inl he) with h | h
  · exact h
  ·
   have := thr_out hx hy hg hc h
   unfold outE at this
   rw [he] at this
   cases this
 obtain ⟨n1, d1, n2, d2, K, -, -, h1, h2⟩ := thr_corner hx hy hin hc h0
 have hd := K.lo.1
 rw [on_iffE hg] at *
 have key : ∀ u v w : Int, w = u → (w - u) * n1 = (v - u) * d1 → v = u := by
  intro u v w hw h
  rw [show w - u = 0 by omega, Int.zero_mul] at h
  rcases Int.mul_eq_zero.1 h.symm with h | h <;> omega
 rcases he with ⟨rfl, e⟩ | ⟨rfl, e⟩ | ⟨rfl, e⟩ | ⟨rfl, e⟩
 · have := key _ _ _ (by omega) h1; omega
 · have := key _ _ _ (by omega) h2; omega
 · have := key _ _ _ (by omega) h1; omega
 · have := key _ _ _ (by omega) h2; omega
/-- an exact point of the segment on the edge's line is where the segment meets it -/
theorem meet_exact {e k d : Pt} {b : Bx} {side : Int} {g : Ed} (hg : edOf b side = some g) {n1 d1 : Int} (hd1 : 0 < d1) (hne : acrossS g e ≠ acrossS g k) (hd : onE g d = true) (h1 : (k.x - e.x) * n1 = (d.x - e.x) * d1) (h2 : (k.y - e.y) * n1 = (d.y - e.y) * d1) : d = meetP g e k := by
 unfold onE at hd
 rw [decide_eq_true_iff] at hd
 unfold acrossS at hne hd
 unfold meetP
 cases hu : g.upright
 ·
  rw [hu] at hne hd
  simp only [Bool.false_eq_true, if_false] at hne hd ⊢
  have := exact_x (a := turnP e) (b := turnP k) (E := g.line) (n := n1) (d := d1) (k := d.x - e.x) hd1 (by show k.y - e.y ≠ 0; omega) (by rw [← hd]; exact h2) h1
  rw [this, ← hd]
  rw [Pt.ext_iff']
  exact ⟨by show d.x = e.x + (d.x - e.x); omega, rfl⟩
 ·
  rw [hu] at hne hd
  simp only [if_true] at hne hd ⊢
  have := exact_x (a := e) (b := k) (E := g.line) (n := n1) (d := d1) (k := d.y - e.y) hd1 (by omega) (by rw [← hd]; exact h1) h2
  rw [this, ← hd]
  rw [Pt.ext_iff']
  exact ⟨rfl, by show d.y = e.y + (d.y - e.y); omega⟩
theorem meet_line {b : Bx} {side : Int} {g : Ed} (hg : edOf b side = some g) (p q : Pt) : onE g (meetP g p q) = true := by
 unfold onE acrossS meetP
 cases g.upright <;> simp
end Go.Proofs.YtfdbidagdjnipaaGreatDoor
namespace Go.Proofs.YtfdbidagdjnipaaGreatDoor

section
variable {ns : List Nd} {b : Bx} (hx : b.x0 < b.x1) (hy : b.y0 < b.y1) {side : Int} {g : Ed} (hg : edOf b side = some g)
include hx hy hg
/-- an open run comes in through this side -/
theorem en_side {p e : Pt} {m : List Pt} (hm : ∀ x ∈ m, inB b x = true) (ho : openS g ns (enRun g p m e) = true) : throughS p ((m ++ [e]).headD pt0) b = side ∧ ∃ n d, Par n d ∧ InQ p ((m ++ [e]).headD pt0) b n d := by
 unfold enRun at ho
 split at ho
 case isFalse => cases ho
 rename_i hp
 have to_on : ∀ q, inB b q = true → onE g q = true → rngE g q → throughS p q b = side ∧ ∃ n d, Par n d ∧ InQ p q b n d := fun q hq ho hr => ⟨thr_to hx hy hg hp ho hr, 1, 1, ⟨by decide, by decide, by decide⟩, in_box_Q1 hq⟩
 split at ho
 ·
  rename_i u m2 hd
  cases m with
  | nil => cases hd
  | cons q m' =>
   have hqi := hm q (by simp)
   rw [List.takeWhile_cons] at ho
   rw [List.dropWhile_cons] at hd
   cases hoq : onE g q
   ·
    rw [hoq] at ho hd
    simp only [Bool.false_eq_true, if_false] at ho hd
    injection hd with hd _
    subst hd
    unfold runO at ho
    rw [if_pos rfl] at ho
    exact thr_meet hx hy hg hp (in_notout hg hqi) (open_head ho)
   ·
    rw [hoq] at ho
    simp only [if_true] at ho
    unfold runO at ho
    rw [if_neg (by simp)] at ho
    exact to_on q hqi hoq (open_head ho)
 ·
  rename_i hd
  split at ho
  case isFalse => cases ho
  rename_i hei
  unfold runO at ho
  cases m with
  | nil =>
   rw [if_pos rfl] at ho
   exact thr_meet hx hy hg hp (q := e) (by unfold outE; rw [hei]; simp) (open_head ho)
  | cons q m' =>
   rw [if_neg (by simp)] at ho
   exact to_on q (hm q (by simp)) (dw_nil hd q (by simp)) (open_head ho)
/-- where the inner points are some -/
theorem ent_mid {p e q k c d : Pt} {m : List Pt} {id en lv : Int} {P : List Pt} (hm : ∀ x ∈ m, inB b x = true) (hn : NRp m) (hq : m.head? = some q) (hk : m.getLast? = some k) (hc : clipS p q b = some (c, q)) (hd : clipS e k b = some (d, k))
  (hen : en = throughS p q b) (hlv : lv = throughS e k b) (hP : P = cmpP (c :: (m ++ [d]))) :
  (1 < P.length → EqO g ns (enterS g ⟨id, P, en, lv⟩) (enRun g p m e)) ∧ (¬ 1 < P.length → ¬ openS g ns (enRun g p m e) = true) := by
 have hgs := (ed_cases hg).1
 have hqi : inB b q = true := hm q (List.mem_of_head? hq)
 have hki : inB b k = true := hm k (List.mem_of_getLast? hk)
 have hhead : (m ++ [e]).headD pt0 = q := by
  cases m with
  | nil => cases hq
  | cons a r => simpa using hq
 rw [cmpP_ends hn hq hk] at hP
 by_cases hs : en = side
 case neg =>
  have hno : ¬ openS g ns (enRun g p m e) = true := fun h => by
   have := (en_side hx hy hg hm h).1
   rw [hhead] at this
   exact hs (hen.trans this)
  exact ⟨fun _ => EqO.of (by rw [enter_ne (by show en ≠ g.side; rw [hgs]; exact hs)]; simp [open_nil]) hno, fun _ => hno⟩
 have hpo : outE g p = true := thr_out hx hy hg hc (hen.symm.trans hs)
 have hcm : c = meetP g p q := thr_point hx hy hg hc (hen.symm.trans hs)
 have hes : (Pc.mk id P en lv).enter = g.side := by show en = g.side; rw [hgs]; exact hs
 cases m with
 | nil => cases hq
 | cons q' m' =>
 have hq' : q' = q := by simpa using hq
 subst hq'
 rcases not_out (in_notout hg hqi) with hqo | hqin
 case inr =>
  -- the first point is an inner one
  have hqo := inner_off hqin
  have hcq : c ≠ q' := fun e => by
   have h2 := meet_line hg p q'
   rw [← hcm, e, hqo] at h2
   cases h2
  rw [if_neg hcq] at hP
  have hrun : enRun g p (q' :: m') e = [c] := by
   unfold enRun
   rw [if_pos hpo, List.dropWhile_cons, List.takeWhile_cons, hqo]
   simp [runO, hcm]
  have hent : enterS g ⟨id, P, en, lv⟩ = [c] := enter_some hes (A := [c]) (u := q') (r := m' ++ (if k = d then [] else [d])) (by show P = _; rw [hP]; simp) (fun x hx => by rw [List.mem_singleton] at hx; subst hx; rw [hcm]; exact meet_line hg p q') hqo
  rw [hrun, hent]
  exact ⟨fun _ => EqO.refl _, fun h => absurd (by rw [hP]; simp) h⟩
 have hcq : c = q' := clip_touch hg hpo hqo hc
 rw [if_pos hcq, List.nil_append] at hP
 generalize hmm : q' :: m' = m at *
 have hmne : m ≠ [] := by rw [← hmm]; simp
 cases hdw : m.dropWhile (onE g) with
 | cons u r =>
  have huo := dw_head hdw
  have hA : ∀ q ∈ m.takeWhile (onE g), onE g q = true := fun q hq => tw_mem hq
  have hme := (List.takeWhile_append_dropWhile (p := onE g) (l := m)).symm
  rw [hdw] at hme
  have hAne : m.takeWhile (onE g) ≠ [] := by rw [← hmm, List.takeWhile_cons, hqo]; simp
  have hrun : enRun g p m e = m.takeWhile (onE g) := by
   unfold enRun
   rw [if_pos hpo, hdw]
   simp only
   unfold runO
   rw [if_neg hAne]
  have hPA : P = m.takeWhile (onE g) ++ u :: (r ++ (if k = d then [] else [d])) := by
   rw [hP]
   conv => lhs; rw [hme]
   simp
  have hent : enterS g ⟨id, P, en, lv⟩ = m.takeWhile (onE g) := enter_some hes (A := m.takeWhile (onE g)) (u := u) (r := r ++ (if k = d then [] else [d])) hPA hA huo
  rw [hrun, hent]
  refine ⟨fun _ => EqO.refl _, fun h => absurd ?_ h⟩
  rw [hP]
  have h1 : 0 < (m.takeWhile (onE g)).length := List.length_pos_iff.2 hAne
  have h2 := congrArg List.length hme
  simp only [List.length_append, List.length_cons] at h2 ⊢
  omega
 | nil =>
  have hall := dw_nil hdw
  have hko : onE g k = true := hall k (List.mem_of_getLast? hk)
  have hrun : enRun g p m e = if innerS g e = true then m else [] := by
   unfold enRun
   rw [if_pos hpo, hdw]
   simp only
   unfold runO
   rw [if_neg hmne]
  rw [hrun]
  by_cases hei : innerS g e = true
  ·
   rw [if_pos hei]
   have hlvs : lv ≠ side := fun h => by
    have := thr_out hx hy hg hd (hlv.symm.trans h)
    unfold outE at this
    rw [hei] at this
    simp at this
   by_cases hkd : k = d
   ·
    subst hkd
    rw [if_pos rfl, List.append_nil] at hP
    have h0 : lv = 0 := hlv.trans (thr_end hx hy hg hei hki hko hd)
    have hent : enterS g ⟨id, P, en, lv⟩ = [] := by
     rw [enter_all hes (by show ∀ q ∈ P, _; rw [hP]; exact hall), if_pos (.inl h0)]
    have hno : ¬ openS g ns m = true := fun h => by
     have hr := (open_pos h).2.2
     have hl : lastP m = k := by
      rw [List.getLast?_eq_getElem?] at hk
      unfold lastP
      rw [List.getD_eq_getElem?_getD, hk]; rfl
     rw [hl] at hr
     exact tail_rng hx hy hg hei hd hko hr
    rw [hent]
    exact ⟨fun _ => EqO.of (by simp [open_nil]) hno, fun _ => hno⟩
   ·
    rw [if_neg hkd] at hP
    have hlen : 1 < P.length := by
     rw [hP, List.length_append, List.length_singleton]
     have := List.length_pos_iff.2 hmne
     omega
    refine ⟨fun _ => ?_, fun h => absurd hlen h⟩
    have hent : enterS g ⟨id, P, en, lv⟩ = m := by
     cases hdo : onE g d
     · exact enter_some hes (A := m) (u := d) (r := []) hP hall hdo
     ·
      rw [enter_all hes (by
       show ∀ q ∈ P, _
       rw [hP]
       intro q hq
       rcases List.mem_append.1 hq with h | h
       · exact hall q h
       · rw [List.mem_singleton] at h; subst h; exact hdo)]
      rw [if_neg]
      ·
       show P.take (if 1 < P.length then P.length - 1 else P.length) = m
       rw [if_pos hlen, hP, List.length_append, List.length_singleton, Nat.add_sub_cancel, List.take_left]
      ·
       rintro (h | h)
       ·
        -- no corner: else the end would be that corner
        have h' : throughS e k b = 0 := hlv.symm.trans h
        cases hin : inB b e
        case true =>
         rw [clip_first hd hin, inner_off hei] at hdo
         cases hdo
        obtain ⟨n1, d1, n2, d2, K, -, -, h1, h2⟩ := thr_corner hx hy hin hd h'
        have hac : acrossS g e ≠ acrossS g k := fun e' => by
         have := inner_off hei
         unfold onE at this hko
         rw [e'] at this
         rw [this] at hko
         cases hko
        have e1 := meet_exact hg K.lo.1 hac hdo h1 h2
        have e2 : k = meetP g e k := meet_exact hg (n1 := 1) (d1 := 1) (by decide) hac hko rfl rfl
        exact hkd (e2.trans e1.symm)
       · exact hlvs (by rw [← hgs]; exact h)
    rw [hent]
    exact EqO.refl _
  ·
   rw [if_neg hei]
   refine ⟨fun _ => EqO.of ?_ (by simp [open_nil]), fun _ => by simp [open_nil]⟩
   have heo : onE g e = true ∨ outE g e = true := by
    cases h : onE g e
    · right; unfold outE; rw [h]; simpa using hei
    · left; rfl
   have hdo : onE g d = true := by
    rcases heo with h | h
    · exact clip_along hx hy hg h hki hko hd
    · rw [clip_touch hg h hko hd]; exact hko
   have hent : enterS g ⟨id, P, en, lv⟩ = [] := by
    rw [enter_all hes (by
     show ∀ q ∈ P, _
     rw [hP]
     intro q hq
     rcases List.mem_append.1 hq with h | h
     · exact hall q h
     ·
      split at h
      · cases h
      · rw [List.mem_singleton] at h; subst h; exact hdo)]
    rw [if_pos]
    show lv = 0 ∨ lv = g.side
    rw [hgs, hlv]
    exact thr_line hx hy hg hki hko heo
   rw [hent]
   simp [open_nil]
/-- no inner points -/
theorem ent_two {p e c d : Pt} {id en lv : Int} {P : List Pt} (hc : clipS p e b = some (c, d)) (hen : en = throughS p e b) (hlv : lv = throughS e p b) (hP : P = cmpP [c, d]) :
  (1 < P.length → EqO g ns (enterS g ⟨id, P, en, lv⟩) (enRun g p [] e)) ∧ (¬ 1 < P.length → ¬ openS g ns (enRun g p [] e) = true) := by
 have hgs := (ed_cases hg).1
 have hd : clipS e p b = some (d, c) := by rw [clip_rev p e b, hc]; rfl
 by_cases hs : en = side
 case neg =>
  have hno : ¬ openS g ns (enRun g p [] e) = true := fun h => hs (hen.trans (en_side hx hy hg (m := []) (fun x hx => by cases hx) h).1)
  exact ⟨fun _ => EqO.of (by rw [enter_ne (by show en ≠ g.side; rw [hgs]; exact hs)]; simp [open_nil]) hno, fun _ => hno⟩
 have hpo : outE g p = true := thr_out hx hy hg hc (hen.symm.trans hs)
 have hcm : c = meetP g p e := thr_point hx hy hg hc (hen.symm.trans hs)
 have hco : onE g c = true := by rw [hcm]; exact meet_line hg p e
 have hes : (Pc.mk id P en lv).enter = g.side := by show en = g.side; rw [hgs]; exact hs
 have hP2 : P = if d = c then [c] else [c, d] := by
  rw [hP, cmpP_cons' c [d]]
  simp only [List.head?_cons, Option.some.injEq]
  by_cases h : d = c
  · rw [if_pos h, if_pos h, h]; rfl
  · rw [if_neg h, if_neg h]; rfl
 have hrun : enRun g p [] e = if innerS g e = true then [c] else [] := by
  unfold enRun
  rw [if_pos hpo, List.dropWhile_nil]
  simp only
  unfold runO
  rw [if_pos rfl, hcm]
 rw [hrun]
 by_cases hei : innerS g e = true
 ·
  rw [if_pos hei]
  have hac : acrossS g e ≠ acrossS g p := fun h => across_ne hpo hei h.symm
  have hcm2 : c = meetP g e p := by rw [hcm]; exact meet_comm hg (fun h => hac h.symm)
  have hlvs : lv ≠ side := fun h => by
   have := thr_out hx hy hg hd (hlv.symm.trans h)
   unfold outE at this
   rw [hei] at this
   simp at this
  by_cases hdc : d = c
  ·
   rw [if_pos hdc] at hP2
   refine ⟨fun h => absurd h (by rw [hP2]; simp), fun _ h => ?_⟩
   subst hdc
   exact tail_rng hx hy hg hei hd hco (open_head h)
  ·
   rw [if_neg hdc] at hP2
   have hlen : 1 < P.length := by rw [hP2]; simp
   refine ⟨fun _ => ?_, fun h => absurd hlen h⟩
   have hent : enterS g ⟨id, P, en, lv⟩ = [c] := by
    cases hdo : onE g d
    · exact enter_some hes (A := [c]) (u := d) (r := []) hP2 (fun x hx => by rw [List.mem_singleton] at hx; subst hx; exact hco) hdo
    ·
     rw [enter_all hes (by
      show ∀ q ∈ P, _
      rw [hP2]
      intro q hq
      simp only [List.mem_cons, List.not_mem_nil, or_false] at hq
      rcases hq with h | h
      · rw [h]; exact hco
      · rw [h]; exact hdo)]
     rw [if_neg]
     ·
      show P.take (if 1 < P.length then P.length - 1 else P.length) = [c]
      rw [if_pos hlen, hP2]; rfl
     ·
      rintro (h | h)
      ·
       have h' : throughS e p b = 0 := hlv.symm.trans h
       cases hin : inB b e
       case true =>
        rw [clip_first hd hin, inner_off hei] at hdo
        cases hdo
       obtain ⟨n1, d1, n2, d2, K, -, -, h1, h2⟩ := thr_corner hx hy hin hd h'
       exact hdc ((meet_exact hg K.lo.1 hac hdo h1 h2).trans hcm2.symm)
      · exact hlvs (by rw [← hgs]; exact h)
   rw [hent]
   exact EqO.refl _
 ·
  rw [if_neg hei]
  refine ⟨fun h => ?_, fun _ => by simp [open_nil]⟩
  exfalso
  cases heo : onE g e
  ·
   have : outE g e = true := by unfold outE; rw [heo]; simpa using hei
   rw [clip_beyond hg hpo this] at hc
   cases hc
  ·
   have := clip_touch hg hpo heo hc
   rw [hP2, if_pos this.symm] at h
   simp at h
end
end Go.Proofs.YtfdbidagdjnipaaGreatDoor
namespace Go.Proofs.YtfdbidagdjnipaaGreatDoor
open Go.RowKit

/-- the lower half, and the order of directions, of vectors -/
def lowV (x y : Int) : Prop := y < 0 ∨ (y = 0 ∧ x < 0)
def ltV (ux uy vx vy : Int) : Prop := (¬ lowV ux uy ∧ lowV vx vy) ∨ ((lowV ux uy ↔ lowV vx vy) ∧ 0 < ux * vy - uy * vx)
theorem three (ux uy vx vy wx wy : Int) : vy * (ux * wy - uy * wx) = uy * (vx * wy - vy * wx) + wy * (ux * vy - uy * vx) := by grind
theorem ne_vec {a o : Pt} : a ≠ o ↔ ¬ (a.x - o.x = 0 ∧ a.y - o.y = 0) := by
 rw [Ne, Pt.ext_iff']; omega
/-- a is in the direction before b's, seen from o -/
def dirLt (o a b : Pt) : Prop := ltV (a.x - o.x) (a.y - o.y) (b.x - o.x) (b.y - o.y)
end Go.Proofs.YtfdbidagdjnipaaGreatDoor
