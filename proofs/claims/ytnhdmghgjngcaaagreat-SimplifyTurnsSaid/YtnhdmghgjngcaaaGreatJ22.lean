import Derived.Test.YtnhdmghgjngcaaaGreatJ09
import Derived.Test.YtnhdmghgjngcaaaGreatJ12
import Derived.Test.YtnhdmghgjngcaaaGreatJ13
import Derived.Test.YtnhdmghgjngcaaaGreatJ16
import Derived.Test.YtnhdmghgjngcaaaGreatJ14
set_option linter.unusedSimpArgs false
set_option linter.unusedVariables false
namespace Go.Proofs.YtnhdmghgjngcaaaGreat
open Go.RowKit
set_option linter.unusedSectionVars false

section
variable {p:Pl} (h:Valid p)
include h
theorem Valid.dart_cnt:(dartsD p).length≤512:=by
 have hl:=h.lim
 unfold limS at hl
 simp only [Bool.or_eq_false_iff,decide_eq_false_iff_not] at hl
 have h2:=hl.2
 unfold dartsD
 rw [List.length_append,List.length_reverse,List.length_map,List.length_map]
 omega
theorem Valid.tw_ar {X:List Int} (hX:X∈cyclesD p):twiceD p X=arX p X:=by
 obtain ⟨h1,h2⟩:=h.cyc_nodup hX
 have hl:=nodup_le h1 h2
 have h3:=h.dart_cnt
 unfold twiceD
 rw [if_pos ⟨by omega,fun d hd=>h.arcD_some (h2 d hd)⟩,twiceUp_sum p X X.length (Nat.le_refl _),List.take_length]
 rfl
end
end Go.Proofs.YtnhdmghgjngcaaaGreat
namespace Go.Proofs.YtnhdmghgjngcaaaGreat
open Go.RowKit
set_option linter.unusedSectionVars false

theorem best_map {α β:Type} (f:α→β) (E:β→Bool) (t:β→Int) (l:List α):bestC E t (l.map f)=(bestC (fun x=>E (f x)) (fun x=>t (f x)) l).map f:=by
 induction l using snoc_ind with
 | h0=>rfl
 | h1 l x ih =>
  rw [List.map_append,List.map_cons,List.map_nil,best_snoc,best_snoc,ih]
  unfold bestStep
  cases bestC (fun x=>E (f x)) (fun x=>t (f x)) l<;>simp only [Option.map]<;>split<;>rfl
theorem best_congr {α:Type} {E E':α→Bool} {t t':α→Int} {l:List α} (h:∀ x∈l,E x=E' x∧t x=t' x):bestC E t l=bestC E' t' l:=by
 induction l using snoc_ind with
 | h0=>rfl
 | h1 l x ih =>
  have ih:=ih fun y hy=>h y (List.mem_append_left _ hy)
  rw [best_snoc,best_snoc,ih]
  obtain ⟨e1,e2⟩:=h x (List.mem_append_right _ List.mem_cons_self)
  unfold bestStep
  cases hb:bestC E' t' l with
  | none=>simp only [e1]
  | some y =>
   have hy:=(best_some E' t' hb).1
   have e3:=(h y (List.mem_append_left _ hy)).2
   simp only [e1,e2,e3]
def keyA (O:List (List Int)) (i:Nat):Option (List Int):=if i=0 then none else O[i-1]?
theorem keyA_inj {O:List (List Int)} (hn:O.Nodup) {i j:Nat} (hi:i≤O.length) (hj:j≤O.length) (e:keyA O i=keyA O j):i=j:=by
 unfold keyA at e
 by_cases h1:i=0
 ·
  by_cases h2:j=0
  · omega
  · rw [if_pos h1,if_neg h2,List.getElem?_eq_getElem (by omega)] at e;cases e
 ·
  by_cases h2:j=0
  · rw [if_neg h1,if_pos h2,List.getElem?_eq_getElem (by omega)] at e;cases e
  ·
   rw [if_neg h1,if_neg h2,List.getElem?_eq_getElem (by omega),List.getElem?_eq_getElem (by omega)] at e
   injection e with e
   unfold List.Nodup at hn
   rw [List.pairwise_iff_getElem] at hn
   rcases Nat.lt_trichotomy i j with g | g | g
   · exact absurd e (hn (i-1) (j-1) (by omega) (by omega) (by omega))
   · exact g
   · exact absurd e.symm (hn (j-1) (i-1) (by omega) (by omega) (by omega))
theorem keyA_some {O:List (List Int)} {i:Nat} (h0:1≤i) (hi:i≤O.length):keyA O i=some (O[i-1]'(by omega)):=by
 unfold keyA
 rw [if_neg (by omega),List.getElem?_eq_getElem (by omega)]
def TwA (p:Pl) (L:List AD):Prop:=∀ i (hi:i<L.length),1≤i→L[i].tw=arX p L[i].out
theorem TwA.set {p:Pl} {L:List AD} (h:TwA p L) {b:Nat} {y:AD} (hb:b<L.length) (h1:y.tw=L[b].tw) (h2:y.out=L[b].out):TwA p (L.set b y):=by
 intro i hi hi1
 simp only [List.length_set] at hi
 rw [List.getElem_set]
 split
 · rename_i e;subst e;rw [h1,h2];exact h b hb hi1
 · exact h i hi hi1
theorem TwA.more {p:Pl} {L:List AD} (h:TwA p L) {x:AD} (h1:x.tw=arX p x.out):TwA p (L++[x]):=by
 intro i hi hi1
 by_cases e:i<L.length
 · rw [List.getElem_append_left e];exact h i e hi1
 ·
  have:i=L.length:=by simp at hi;omega
  subst this
  simpa using h1
theorem TwA.one (p:Pl) (x:AD):TwA p [x]:=fun i hi hi1=>by simp at hi;omega
structure DivA (p:Pl) (L:List AD) (O R:List (List Int)) (N:List Nd):Prop where
 out:L.map (·.out)=[]::O
 inn:∀ i (hi:i<L.length),L[i].inn.map (·.1)=R.filter (fun c=>decide (homeP p (cycPt p c)=keyA O i))
 alo:∀ i (hi:i<L.length),L[i].alo=(N.filter (fun n=>decide (degS p.arcs n.id=0∧homeP p n.pt=keyA O i))).map (·.id)
section
variable {p:Pl} {L:List AD} {O R:List (List Int)} {N:List Nd} (h:DivA p L O R N)
include h
theorem DivA.len:L.length=O.length+1:=by
 have:=congrArg List.length h.out
 simpa using this
theorem DivA.out_at {i:Nat} (hi:i<L.length) (h1:1≤i):L[i].out=O[i-1]'(by have:=h.len;omega):=by
 have e:(L.map (·.out))[i]'(by simpa using hi)=L[i].out:=by rw [List.getElem_map]
 rw [← e]
 have h2:=h.out
 obtain ⟨j,rfl⟩:∃ j,i=j+1:=⟨i-1,by omega⟩
 simp only [h2,List.getElem_cons_succ,Nat.add_sub_cancel]
theorem DivA.out_zero (h0:0<L.length):L[0].out=[]:=by
 have e:(L.map (·.out))[0]'(by simpa using h0)=L[0].out:=by rw [List.getElem_map]
 rw [← e]
 have h2:=h.out
 simp only [h2,List.getElem_cons_zero]
theorem DivA.out_mem {x:AD} (hx:x∈L):x.out=[]∨x.out∈O:=by
 have:x.out∈L.map (·.out):=List.mem_map_of_mem hx
 rw [h.out] at this
 rcases List.mem_cons.1 this with e | e
 · exact .inl e
 · exact .inr e
theorem DivA.more (hR:R=[]) (hN:N=[]) (x:AD) (h2:x.inn=[]) (h3:x.alo=[]):DivA p (L++[x]) (O++[x.out]) R N:=by
 subst hR hN
 have hl:=h.len
 refine ⟨by rw [List.map_append,h.out];rfl,fun i hi=>?_,fun i hi=>?_⟩
 ·
  by_cases e:i<L.length
  · rw [List.getElem_append_left e,h.inn i e];rfl
  ·
   have:i=L.length:=by simp at hi;omega
   subst this
   simp [h2]
 ·
  by_cases e:i<L.length
  · rw [List.getElem_append_left e,h.alo i e];rfl
  ·
   have:i=L.length:=by simp at hi;omega
   subst this
   simp [h3]
theorem DivA.inner (hn:O.Nodup) {b:Nat} (hb:b<L.length) (c:List Int) (sv iv':SV) (hh:homeP p (cycPt p c)=keyA O b) :
  DivA p (L.set b {L[b] with inn:=L[b].inn++[(c,sv)],iv:=iv'}) O (R++[c]) N:=by
 have hl:=h.len
 refine ⟨?_,fun i hi=>?_,fun i hi=>?_⟩
 ·
  rw [← h.out]
  apply List.ext_getElem (by simp)
  intro i h1 h2
  rw [List.getElem_map,List.getElem_map,List.getElem_set]
  split
  · rename_i e;subst e;rfl
  · rfl
 ·
  simp only [List.length_set] at hi
  rw [List.getElem_set,List.filter_append]
  split
  ·
   rename_i e
   subst e
   rw [List.map_append,h.inn b hb,List.filter_cons,if_pos (by simpa using hh)]
   rfl
  ·
   rename_i e
   rw [h.inn i hi,List.filter_cons,if_neg (by
    rw [decide_eq_true_eq,hh]
    exact fun g=>e (keyA_inj hn (by omega) (by omega) g)),List.filter_nil,List.append_nil]
 ·
  simp only [List.length_set] at hi
  rw [List.getElem_set]
  split
  · rename_i e;subst e;exact h.alo b hb
  · exact h.alo i hi
theorem DivA.lone (hn:O.Nodup) {b:Nat} (hb:b<L.length) (n:Nd) (av':SV) (h0:degS p.arcs n.id=0) (hh:homeP p n.pt=keyA O b) :
  DivA p (L.set b {L[b] with alo:=L[b].alo++[n.id],av:=av'}) O R (N++[n]):=by
 have hl:=h.len
 refine ⟨?_,fun i hi=>?_,fun i hi=>?_⟩
 ·
  rw [← h.out]
  apply List.ext_getElem (by simp)
  intro i h1 h2
  rw [List.getElem_map,List.getElem_map,List.getElem_set]
  split
  · rename_i e;subst e;rfl
  · rfl
 ·
  simp only [List.length_set] at hi
  rw [List.getElem_set]
  split
  · rename_i e;subst e;exact h.inn b hb
  · exact h.inn i hi
 ·
  simp only [List.length_set] at hi
  rw [List.getElem_set,List.filter_append]
  split
  ·
   rename_i e
   subst e
   rw [List.map_append,h.alo b hb,List.filter_cons,if_pos (by rw [decide_eq_true_eq];exact ⟨h0,hh⟩)]
   rfl
  ·
   rename_i e
   rw [h.alo i hi,List.filter_cons,if_neg (by
    rw [decide_eq_true_eq,hh]
    exact fun g=>e (keyA_inj hn (by omega) (by omega) g.2)),List.filter_nil,List.append_nil]
theorem DivA.pass (n:Nd) (h0:degS p.arcs n.id≠0):DivA p L O R (N++[n]) :=
 ⟨h.out,h.inn,fun i hi=>by
  rw [h.alo i hi,List.filter_append,List.filter_cons,if_neg (by rw [decide_eq_true_eq];exact fun g=>h0 g.1),List.filter_nil,List.append_nil]⟩
theorem DivA.home (hO:O=outX p) (hT:TwA p L) {v:Pt} {b:Nat} (hb:bestIx p v L (L.length-1) b):b<L.length∧homeP p v=keyA O b:=by
 have hl:=h.len
 have ht:L.tail.take (L.length-1)=L.tail:=List.take_of_length_le (by simp)
 have hm:L.tail.map (·.out)=O:=by rw [List.map_tail,h.out];rfl
 have e1:homeP p v=(bestC (fun x:AD=>encS p x.out v) (fun x:AD=>x.tw) L.tail).map (·.out):=by
  unfold homeP
  rw [← hO,← hm,best_map]
  congr 1
  refine best_congr fun x hx=>⟨rfl,?_⟩
  obtain ⟨i,hi,rfl⟩:=List.mem_iff_getElem.1 hx
  rw [List.getElem_tail]
  simp only [List.length_tail] at hi
  exact (hT (i+1) (by omega) (by omega)).symm
 unfold bestIx at hb
 rw [ht] at hb
 rcases hb with ⟨rfl,e⟩ | ⟨hbl,h1,h2,e⟩
 ·
  rw [e] at e1
  exact ⟨by omega,by rw [e1];rfl⟩
 ·
  rw [e] at e1
  refine ⟨hbl,?_⟩
  rw [e1,keyA_some h1 (by omega)]
  show some L[b].out=_
  rw [h.out_at hbl h1]
end
theorem DivA.start (p:Pl) (x:AD) (h1:x.out=[]) (h2:x.inn=[]) (h3:x.alo=[]):DivA p [x] [] [] []:=by
 refine ⟨by simp [h1],fun i hi=>?_,fun i hi=>?_⟩
 ·
  have:i=0:=by simp at hi;omega
  subst this;simp [h2]
 ·
  have:i=0:=by simp at hi;omega
  subst this;simp [h3]
section
variable {p:Pl} (h:Valid p)
include h
theorem Valid.cyc_ne {X:List Int} (hX:X∈cyclesD p):X≠[]:=fun e=>by
 obtain ⟨x,-,-,-,hx⟩:=h.cyc_form hX
 rw [e] at hx;cases hx
theorem Valid.cycles_nodup:(cyclesD p).Nodup:=by
 have hp:=h.cyc_perm.nodup_iff.2 h.darts_nodup
 have hd:(cyclesD p).Pairwise (fun a b=>∀ x∈a,∀ y∈b,x≠y):=by
  have h2:=List.pairwise_flatten.1 hp
  exact h2.2
 unfold List.Nodup
 refine List.Pairwise.imp_of_mem (fun {a b} ha hb hab e=>?_) hd
 subst e
 have hne:=h.cyc_ne ha
 cases a with
 | nil=>exact hne rfl
 | cons x a=>exact hab x List.mem_cons_self x List.mem_cons_self rfl
theorem Valid.cycs_len:(cyclesD p).length≤512:=by
 have:∀ L:List (List Int),(∀ X∈L,X≠[])→L.length≤L.flatten.length:=by
  intro L
  induction L with
  | nil=>intro _;exact Nat.le_refl _
  | cons X L ih =>
   intro hL
   have h1:=ih fun Y hY=>hL Y (List.mem_cons_of_mem _ hY)
   have h2:=List.length_pos_iff.2 (hL X List.mem_cons_self)
   rw [List.flatten_cons,List.length_append,List.length_cons]
   omega
 have h1:=this (cyclesD p) fun X hX=>h.cyc_ne hX
 have h2:=h.cyc_perm.length_eq
 have h3:=h.dart_cnt
 omega
theorem Valid.face_pos {f:Int} (hf:f∈p.faces):1≤f∧f≤1073741824:=by
 have hr:=h.rng
 unfold rangesS at hr
 rw [Bool.and_eq_true] at hr
 have h1:=hr.1
 rw [Bool.not_eq_true',List.any_eq_false] at h1
 have:=h1 f (List.mem_append_right _ hf)
 unfold idBad at this
 simp only [Bool.or_eq_true,decide_eq_true_eq,not_or] at this
 omega
theorem Valid.side_face (d:Int):sideD p d=0∨sideD p d∈p.faces:=by
 have hs:=h.sides
 unfold sidesS at hs
 rw [List.all_eq_true] at hs
 have hf:∀ n,faceS p.faces n=true→n=0∨n∈p.faces:=fun n hn=>by
  unfold faceS at hn
  rw [Bool.or_eq_true,List.any_eq_true] at hn
  rcases hn with ⟨x,hx,e⟩ | e
  · have:=eq_of_beq e;subst this;exact .inr hx
  · exact .inl (eq_of_beq e)
 unfold sideD
 split
 · exact .inl rfl
 ·
  rename_i a e
  have ha:a∈p.arcs:=by
   unfold arcD at e
   split at e
   · cases e
   · exact List.mem_of_find?_eq_some e
  have:=hs a ha
  rw [Bool.and_eq_true] at this
  split
  · exact hf _ this.1
  · exact hf _ this.2
theorem Valid.side_bd (d:Int):0≤sideD p d∧sideD p d≤1073741824:=by
 rcases h.side_face d with e | e
 · omega
 · have:=h.face_pos e;omega
theorem Valid.outX_nodup:(outX p).Nodup:=h.cycles_nodup.filter _
end
def fcI (p:Pl) (O:List (List Int)) (i:Nat):Int:=faceX p (keyA O i)
def cyI (p:Pl) (O:List (List Int)) (i:Nat):List (List Int):=cysX p (keyA O i)
structure FacU (p:Pl) (O:List (List Int)) (k:Nat):Prop where
 some:∀ i,1≤i→i<k→fcI p O i≠0
 differ:∀ i j,1≤i→i<j→j<k→fcI p O i≠fcI p O j
 sides:∀ i,i<k→∀ c∈cyI p O i,∀ d∈c,sideD p d=fcI p O i
theorem FacU.zero (p:Pl) (O:List (List Int)):FacU p O 0:=⟨fun i _ h=>by omega,fun i j _ _ h=>by omega,fun i h=>by omega⟩
def seenF (p:Pl) (O:List (List Int)) (k:Nat):List Int:=(List.range (k-1)).map fun i=>fcI p O (i+1)
theorem seenF_succ (p:Pl) (O:List (List Int)) {k:Nat} (h:1≤k):seenF p O (k+1)=seenF p O k++[fcI p O k]:=by
 unfold seenF
 rw [show k+1-1=(k-1)+1 by omega,List.range_succ,List.map_append]
 simp only [List.map_cons,List.map_nil]
 rw [show k-1+1=k by omega]
theorem mem_seenF {p:Pl} {O:List (List Int)} {k:Nat} {x:Int}:x∈seenF p O k↔∃ i,1≤i∧i<k∧fcI p O i=x:=by
 unfold seenF
 rw [List.mem_map]
 constructor
 ·
  rintro ⟨i,hi,rfl⟩
  rw [List.mem_range] at hi
  exact ⟨i+1,by omega,by omega,rfl⟩
 ·
  rintro ⟨i,h1,h2,rfl⟩
  exact ⟨i-1,by rw [List.mem_range];omega,by rw [show i-1+1=i by omega]⟩
theorem seenF_len (p:Pl) (O:List (List Int)) (k:Nat):(seenF p O k).length=k-1:=by unfold seenF;simp
theorem FacU.succ {p:Pl} {O:List (List Int)} {k:Nat} (h:FacU p O k) (h1:1≤k→fcI p O k≠0) (h2:1≤k→fcI p O k∉seenF p O k) (h3:∀ c∈cyI p O k,∀ d∈c,sideD p d=fcI p O k):FacU p O (k+1):=by
 refine ⟨fun i hi hk=>?_,fun i j hi hj hk=>?_,fun i hi=>?_⟩
 ·
  by_cases e:i=k
  · subst e;exact h1 hi
  · exact h.some i hi (by omega)
 ·
  by_cases e:j=k
  ·
   subst e
   exact fun g=>h2 (by omega) (mem_seenF.2 ⟨i,hi,hj,g⟩)
  · exact h.differ i j hi hj (by omega)
 ·
  by_cases e:i=k
  · subst e;exact h3
  · exact h.sides i (by omega)
theorem fcI_some {p:Pl} {O:List (List Int)} {i:Nat} (h1:1≤i) (hi:i≤O.length):fcI p O i=sideD p ((O[i-1]'(by omega)).headD 0):=by
 unfold fcI;rw [keyA_some h1 hi];rfl
theorem FacU.iff {p:Pl} {O:List (List Int)} (hp:O.Perm (outX p)):FaceOK p↔FacU p O (O.length+1)∧O.length=p.faces.length:=by
 constructor
 ·
  intro h
  refine ⟨⟨fun i h1 h2=>?_,fun i j h1 h2 h3=>?_,fun i hi=>?_⟩,by rw [hp.length_eq];exact h.all⟩
  ·
   rw [fcI_some h1 (by omega)]
   exact h.some _ (hp.subset (List.getElem_mem _))
  ·
   rw [fcI_some h1 (by omega),fcI_some (by omega) (by omega)]
   intro e
   have hd:=(hp.map (fun X=>sideD p (X.headD 0))).nodup_iff.2 h.differ
   unfold List.Nodup at hd
   rw [List.pairwise_map,List.pairwise_iff_getElem] at hd
   exact hd (i-1) (j-1) (by omega) (by omega) (by omega) e
  ·
   refine h.sides _ ?_
   by_cases e:i=0
   · subst e;exact .inl rfl
   ·
    rw [keyA_some (by omega) (by omega)]
    exact .inr ⟨_,hp.subset (List.getElem_mem _),rfl⟩
 ·
  rintro ⟨h,ha⟩
  refine ⟨fun X hX=>?_,?_,fun b hb=>?_,by rw [← hp.length_eq];exact ha⟩
  ·
   obtain ⟨i,hi,rfl⟩:=List.mem_iff_getElem.1 (hp.symm.subset hX)
   have:=h.some (i+1) (by omega) (by omega)
   rw [fcI_some (by omega) (by omega)] at this
   exact this
  ·
   refine (hp.map (fun X=>sideD p (X.headD 0))).nodup_iff.1 ?_
   unfold List.Nodup
   rw [List.pairwise_map,List.pairwise_iff_getElem]
   intro i j hi hj hij
   have:=h.differ (i+1) (j+1) (by omega) (by omega) (by omega)
   rw [fcI_some (by omega) (by omega),fcI_some (by omega) (by omega)] at this
   exact this
  ·
   rcases hb with rfl | ⟨X,hX,rfl⟩
   · exact h.sides 0 (by omega)
   ·
    obtain ⟨i,hi,rfl⟩:=List.mem_iff_getElem.1 (hp.symm.subset hX)
    have:=h.sides (i+1) (by omega)
    unfold cyI fcI at this
    rw [keyA_some (by omega) (by omega)] at this
    exact this
def regsX (p:Pl):List (Option (List Int)):=none::(outX p).map some
def facB (p:Pl):Bool:=(outX p).all (fun X=>sideD p (X.headD 0) != 0) && decide ((outX p).map (fun X=>sideD p (X.headD 0))).Nodup && (regsX p).all (fun b=>(cysX p b).all fun c=>c.all fun d=>sideD p d == faceX p b) && decide ((outX p).length=p.faces.length)
theorem facB_iff {p:Pl}:facB p=true↔FaceOK p:=by
 unfold facB regsX
 simp only [Bool.and_eq_true,decide_eq_true_eq,List.all_eq_true,List.mem_cons,List.mem_map,bne_iff_ne,beq_iff_eq]
 constructor
 ·
  rintro ⟨⟨⟨h1,h2⟩,h3⟩,h4⟩
  refine ⟨h1,h2,fun b hb=>h3 b ?_,h4⟩
  rcases hb with h | ⟨X,hX,h⟩
  · exact .inl h
  · exact .inr ⟨X,hX,h.symm⟩
 ·
  rintro ⟨h1,h2,h3,h4⟩
  refine ⟨⟨⟨h1,h2⟩,fun b hb=>h3 b ?_⟩,h4⟩
  rcases hb with h | ⟨X,hX,h⟩
  · exact .inl h
  · exact .inr ⟨X,hX,h.symm⟩
theorem facB_iffU {p:Pl} {O:List (List Int)} (hp:O.Perm (outX p)):facB p=true↔FacU p O (O.length+1)∧O.length=p.faces.length:=facB_iff.trans (FacU.iff hp)
end Go.Proofs.YtnhdmghgjngcaaaGreat
namespace Go.Proofs.YtnhdmghgjngcaaaGreat
open Go.RowKit

def CyR (w:World) (v:Value) (L:List (List Int×SV)):Prop:=Sl w v L.length (L.flatMap cyC)∧∀ x∈L,Ints w (.slice x.2.a x.2.n x.2.c) x.1
theorem CyR.mono {w w':World} {v:Value} {L:List (List Int×SV)} (h:CyR w v L) (hb:Below w.heap.size w w'):CyR w' v L :=
 ⟨Sl.mono h.1 hb,fun x hx=>(h.2 x hx).mono hb⟩
theorem CysO.read {w:World} {B:Nat} {v:Value} {L:List (List Int×SV)} (h:CysO w B v L):CyR w v L:=⟨h.1.sl,fun x hx=>(h.2 x hx).sl⟩
theorem Row.cy {w:World} {A:Option Addr} {l:List (List Int×SV)} (h:Row w A (l.flatMap cyC)) {k:Nat} (hk:k<l.length) :
  ∃ b o,A=some ⟨b,o,none⟩∧b<w.heap.size∧w.cell? ⟨b,o+k,none⟩=some (.slice l[k].2.a l[k].2.n l[k].2.c):=by
 obtain ⟨b,o,hA,hb,hc⟩:=h.at_ (n:=1) (fun _=>rfl) hk (by omega)
 exact ⟨b,o,hA,hb,by simpa using hc 0 _ rfl⟩

end Go.Proofs.YtnhdmghgjngcaaaGreat
