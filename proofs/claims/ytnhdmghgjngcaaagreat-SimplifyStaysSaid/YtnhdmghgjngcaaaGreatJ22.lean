import Derived.Test.YtnhdmghgjngcaaaGreatJ16
import Derived.Test.YtnhdmghgjngcaaaGreatJ21
import Derived.Test.YtnhdmghgjngcaaaGreatJ15
import Derived.Test.YtnhdmghgjngcaaaGreatJ05
import Derived.Test.YtnhdmghgjngcaaaGreatSortB
import Derived.Test.YtnhdmghgjngcaaaGreatLaySortRg
import Derived.Test.YtnhdmghgjngcaaaGreatJ09
import Derived.Test.YtnhdmghgjngcaaaGreatJ12
import Derived.Test.YtnhdmghgjngcaaaGreatJ14
set_option linter.unusedSimpArgs false
set_option linter.unusedVariables false
namespace Go.Proofs.YtnhdmghgjngcaaaGreat
open Go.RowKit Go.Sort

set_option maxRecDepth 100000 in
set_option maxHeartbeats 1000000 in
theorem cmpRg_spec (s t:AD) (w:World):Calls Tryz.prog 31 #[.agg #[.int .i64 s.tw,svV s.ov,svV s.iv,svV s.av],.agg #[.int .i64 t.tw,svV t.ov,svV t.iv,svV t.av]] w fun e w'=>e=.returned (.int .i64 (cmpI s.tw t.tw))∧BelowD w w':=by
 unfold svV
 go_enter Tryz.func31,Tryz.ntmps31
 go_wp2_with fail
 refine (Compare_int_spec' s.tw t.tw _).mono ?_
 rintro e w1 ⟨rfl,hb1,hd1⟩
 have HB1:=Lib.hid (bT (bA (bA (bR w) _) _) hb1)
 have HD1:=Lib.hid (dT (dA (dA (dR w) _) _) hd1)
 clear hb1 hd1
 go_wp2_with fail
 go_ret
 exact ⟨rfl,HB1.out,HD1.out⟩

end Go.Proofs.YtnhdmghgjngcaaaGreat
namespace Go.Proofs.YtnhdmghgjngcaaaGreat
open Go.RowKit Go.Sort

theorem isAgg_Rg:∀ w,(isAgg 52).run Tryz.prog w=.ok true w:=fun _=>by kernel_rfl
theorem sizeOf_Rg:∀ w,(Go.sizeOf 52).run Tryz.prog w=.ok 4 w:=fun _=>by kernel_rfl
def RetSortRg (w:World) (base:Nat) (v:Value) (sl:List AD) (e:Ending) (w':World):Prop :=
 e=.returned (.tuple #[])∧∃ sl':List AD,sl'.Perm sl∧sl'.Pairwise (fun a b=>ltOf (fun x y:AD=>cmpI x.tw y.tw) b a=false)∧Own w' base 52 4 adC v sl'∧w.grownBy w' v.ownBlock
theorem SortRg_spec (base:Nat) (v:Value) (sl:List AD) (w:World) (hown:Own w base 52 4 adC v sl) (hn:sl.length≤4294967296) :
  Calls Tryz.prog 30 #[v,.func (.func 31) #[] #[]] w (RetSortRg w base v sl):=by
 rcases sl with _ | ⟨s0,rest⟩
 ·
  have hv:∃ p cap,v=.slice p 0 cap:=by
   rcases hown.2 with ⟨h,_⟩ | ⟨g,cap,cur,h,_⟩
   · exact ⟨_,_,h⟩
   · exact ⟨_,_,h⟩
  obtain ⟨p,cap,rfl⟩:=hv
  refine Calls.mono (AnyF.slices_SortFunc_none Tryz.sortRg p cap (.func (.func 31) #[] #[]) w) ?_
  rintro e w' ⟨rfl,rfl⟩
  exact ⟨rfl,[],List.Perm.refl _,List.Pairwise.nil,hown,World.grownBy.refl _ _⟩
 generalize hsl:s0::rest=sl at *
 have hs0:s0∈sl:=by rw [← hsl];simp
 have hpos:0<sl.length:=by rw [← hsl];simp
 obtain ⟨hlen,hown2⟩:=hown
 rcases hown2 with ⟨_,h0⟩ | ⟨g,cap,cur,rfl,hg,hh,hnc,hcm,hcs,hx⟩
 · omega
 haveI hI:Inhabited {s:AD // s=s}:=⟨⟨s0,rfl⟩⟩
 have hdl:∃ dl:List {s:AD // s=s},dl.map (·.1)=sl:=⟨sl.attachWith (fun s=>s=s) (fun _ _=>rfl),by simp⟩
 obtain ⟨dl,hdl⟩:=hdl
 have hdn:dl.length=sl.length:=by rw [← hdl];simp
 have hfm:dl.flatMap (fun x=>adC x.1)=sl.flatMap adC:=by rw [← hdl,List.flatMap_map]
 have hcur:∀ j,j<sl.length*4→cur[j]? = (sl.flatMap adC)[j]? := fun j hj=>by
  rw [← hx,List.getElem?_take,if_pos hj];simp
 have eg:∀ args w,(callFunc 31 args).run Tryz.prog w=.ok (.enter 31 args) w:=enters_of Tryz.func31 (by kernel_rfl) rfl
 have hkk:∀ x:{s:AD // s=s},(adC x.1).length=4:=fun _=>rfl
 have hcmp:CmpLays Tryz.prog 31 #[] (fun x:{s:AD // s=s}=>adC x.1) 4 (fun x y=>(fun x y:AD=>cmpI x.tw y.tw) x.1 y.1) g 0 dl.toArray.size w:=fun m os dk hdk x y=>by
  have hg':=sort_grown (fun x:{s:AD // s=s}=>adC x.1) 4 w g 0 m dk os

  exact (cmpRg_spec x.1 y.1 _).mono fun e w' h=>⟨h.1,belowD_grow h.2⟩
 have hsz:dl.toArray.size*4=sl.length*4:=by simp [hdn]
 have hH:HoldsK (fun x:{s:AD // s=s}=>adC x.1) 4 w g 0 dl.toArray:=fun j hj=>by
  rw [size_flatK,hsz] at hj
  refine ⟨?_,Blk.frozen (t:=52) (cs:=cur) hh _⟩
  rw [cell_of_row w g _ cur 52 (0,0) hh,Nat.zero_add,hcur j hj,flatK_list _ 4 hkk _ j (by rw [hsz];exact hj)]
  simp only [id]
  rw [hfm,List.getElem!_eq_getElem?_getD]
  have:j<(sl.flatMap adC).length:=by rw [hlen];exact hj
  rw [List.getElem?_eq_getElem this];rfl
 have hcon:=AnyQ.slices_SortFunc Tryz.sortRg 4 isAgg_Rg sizeOf_Rg (fun x:{s:AD // s=s}=>adC x.1) hkk (fun x=>adC_one x.1) (fun x y=>(fun x y:AD=>cmpI x.tw y.tw) x.1 y.1) (swo_cmp fun x:{s:AD // s=s}=>x.1.tw) 31 #[] g 0 cap dl.toArray w eg hcmp hH (Blk.lt hh) (by simp;omega)
 have hns:dl.toArray.size=sl.length:=by simp [hdn]
 rw [hns] at hcon
 refine Calls.mono hcon ?_
 rintro e w' ⟨rfl,d',n,os,hp,hs,rfl⟩
 obtain ⟨p1,-,p3⟩:=hp
 have hd':d'.size=sl.length:=by rw [p1,hns]
 have hperm:d'.toList.Perm dl:=by
  have e1:d'.extract 0 sl.length=d':=by rw [← hd'];simp
  have e2:dl.toArray.extract 0 sl.length=dl.toArray:=by rw [← hns];simp
  rw [e1,e2] at p3
  simpa using p3
 have hg':=sort_grown (fun x:{s:AD // s=s}=>adC x.1) 4 w g 0 n d' os
 refine ⟨rfl,d'.toList.map (·.1),by rw [← hdl];exact hperm.map _,?_,?_,hg'⟩
 ·
  rw [List.pairwise_map,List.pairwise_iff_getElem]
  intro i j hi hj hij
  have hj':j<d'.size:=by simpa using hj
  have:=hs i j (Nat.zero_le _) hij (by rw [← hd'];exact hj')
  rw [getElem!_pos d' j hj',getElem!_pos d' i (by omega)] at this
  exact this
 ·
  have hl':(d'.toList.map (·.1)).length=sl.length:=by simp [hd']
  unfold Own
  rw [hl']
  have hfd:(d'.toList.map (·.1)).flatMap adC=d'.toList.flatMap (fun x=>adC x.1):=by rw [List.flatMap_map]
  have hln:((d'.toList.map (·.1)).flatMap adC).length=sl.length*4:=by rw [flat_length adC 4 adC_len,hl']
  refine ⟨hln,.inr ⟨g,cap,putCells id 0 (flatK (fun x:{s:AD // s=s}=>adC x.1) 4 d') cur,rfl,hg,?_,hnc,hcm,by simp [putCells,hcs],?_⟩⟩
  ·
   have hgl:g<w.heap.size:=Blk.lt hh
   rw [sort_heap,Array.getElem?_append_left (by simpa using hgl),Array.getElem?_modify,if_pos rfl,hh]
   rfl
  ·
   apply List.ext_getElem?
   intro j
   rw [List.getElem?_take]
   by_cases hj:j<sl.length*4
   ·
    rw [if_pos hj,hfd]
    have hjc:j<cur.size:=by rw [hcs];have:=Nat.mul_le_mul_right 4 hnc;omega
    have hjd:j<d'.size*4:=by rw [hd'];exact hj
    have e1:(putCells id 0 (flatK (fun x:{s:AD // s=s}=>adC x.1) 4 d') cur).toList[j]? = some (flatK (fun x:{s:AD // s=s}=>adC x.1) 4 d')[j]! := by
     simp [putCells,hjc,hjd]
    rw [e1,flatK_list _ 4 hkk _ j hjd,List.getElem!_eq_getElem?_getD]
    have:j<(d'.toList.flatMap fun x=>adC x.1).length:=by rw [← hfd,hln];exact hj
    rw [List.getElem?_eq_getElem this];rfl
   · rw [if_neg hj,List.getElem?_eq_none (by rw [hln];omega)]
end Go.Proofs.YtnhdmghgjngcaaaGreat
namespace Go.Proofs.YtnhdmghgjngcaaaGreat
open Go.RowKit
set_option linter.unusedSectionVars false

section
variable {p:Pl} (h:Valid p)
include h
theorem Valid.dart_cnt:(dartsD p).length≤512:=by
 have hl:=h.lim
 unfold limS at hl
 simp only [Bool.or_eq_false_iff,decide_eq_false_iff_not] at hl
 have h2:=hl.2
 unfold dartsD
 rw [List.length_append,List.length_reverse,List.length_map,List.length_map]
 omega
theorem Valid.tw_ar {X:List Int} (hX:X∈cyclesD p):twiceD p X=arX p X:=by
 obtain ⟨h1,h2⟩:=h.cyc_nodup hX
 have hl:=nodup_le h1 h2
 have h3:=h.dart_cnt
 unfold twiceD
 rw [if_pos ⟨by omega,fun d hd=>h.arcD_some (h2 d hd)⟩,twiceUp_sum p X X.length (Nat.le_refl _),List.take_length]
 rfl
end
end Go.Proofs.YtnhdmghgjngcaaaGreat
namespace Go.Proofs.YtnhdmghgjngcaaaGreat
open Go.RowKit
set_option linter.unusedSectionVars false

theorem best_map {α β:Type} (f:α→β) (E:β→Bool) (t:β→Int) (l:List α):bestC E t (l.map f)=(bestC (fun x=>E (f x)) (fun x=>t (f x)) l).map f:=by
 induction l using snoc_ind with
 | h0=>rfl
 | h1 l x ih =>
  rw [List.map_append,List.map_cons,List.map_nil,best_snoc,best_snoc,ih]
  unfold bestStep
  cases bestC (fun x=>E (f x)) (fun x=>t (f x)) l<;>simp only [Option.map]<;>split<;>rfl
theorem best_congr {α:Type} {E E':α→Bool} {t t':α→Int} {l:List α} (h:∀ x∈l,E x=E' x∧t x=t' x):bestC E t l=bestC E' t' l:=by
 induction l using snoc_ind with
 | h0=>rfl
 | h1 l x ih =>
  have ih:=ih fun y hy=>h y (List.mem_append_left _ hy)
  rw [best_snoc,best_snoc,ih]
  obtain ⟨e1,e2⟩:=h x (List.mem_append_right _ List.mem_cons_self)
  unfold bestStep
  cases hb:bestC E' t' l with
  | none=>simp only [e1]
  | some y =>
   have hy:=(best_some E' t' hb).1
   have e3:=(h y (List.mem_append_left _ hy)).2
   simp only [e1,e2,e3]
def keyA (O:List (List Int)) (i:Nat):Option (List Int):=if i=0 then none else O[i-1]?
theorem keyA_inj {O:List (List Int)} (hn:O.Nodup) {i j:Nat} (hi:i≤O.length) (hj:j≤O.length) (e:keyA O i=keyA O j):i=j:=by
 unfold keyA at e
 by_cases h1:i=0
 ·
  by_cases h2:j=0
  · omega
  · rw [if_pos h1,if_neg h2,List.getElem?_eq_getElem (by omega)] at e;cases e
 ·
  by_cases h2:j=0
  · rw [if_neg h1,if_pos h2,List.getElem?_eq_getElem (by omega)] at e;cases e
  ·
   rw [if_neg h1,if_neg h2,List.getElem?_eq_getElem (by omega),List.getElem?_eq_getElem (by omega)] at e
   injection e with e
   unfold List.Nodup at hn
   rw [List.pairwise_iff_getElem] at hn
   rcases Nat.lt_trichotomy i j with g | g | g
   · exact absurd e (hn (i-1) (j-1) (by omega) (by omega) (by omega))
   · exact g
   · exact absurd e.symm (hn (j-1) (i-1) (by omega) (by omega) (by omega))
theorem keyA_some {O:List (List Int)} {i:Nat} (h0:1≤i) (hi:i≤O.length):keyA O i=some (O[i-1]'(by omega)):=by
 unfold keyA
 rw [if_neg (by omega),List.getElem?_eq_getElem (by omega)]
def TwA (p:Pl) (L:List AD):Prop:=∀ i (hi:i<L.length),1≤i→L[i].tw=arX p L[i].out
theorem TwA.set {p:Pl} {L:List AD} (h:TwA p L) {b:Nat} {y:AD} (hb:b<L.length) (h1:y.tw=L[b].tw) (h2:y.out=L[b].out):TwA p (L.set b y):=by
 intro i hi hi1
 simp only [List.length_set] at hi
 rw [List.getElem_set]
 split
 · rename_i e;subst e;rw [h1,h2];exact h b hb hi1
 · exact h i hi hi1
theorem TwA.more {p:Pl} {L:List AD} (h:TwA p L) {x:AD} (h1:x.tw=arX p x.out):TwA p (L++[x]):=by
 intro i hi hi1
 by_cases e:i<L.length
 · rw [List.getElem_append_left e];exact h i e hi1
 ·
  have:i=L.length:=by simp at hi;omega
  subst this
  simpa using h1
theorem TwA.one (p:Pl) (x:AD):TwA p [x]:=fun i hi hi1=>by simp at hi;omega
structure DivA (p:Pl) (L:List AD) (O R:List (List Int)) (N:List Nd):Prop where
 out:L.map (·.out)=[]::O
 inn:∀ i (hi:i<L.length),L[i].inn.map (·.1)=R.filter (fun c=>decide (homeP p (cycPt p c)=keyA O i))
 alo:∀ i (hi:i<L.length),L[i].alo=(N.filter (fun n=>decide (degS p.arcs n.id=0∧homeP p n.pt=keyA O i))).map (·.id)
section
variable {p:Pl} {L:List AD} {O R:List (List Int)} {N:List Nd} (h:DivA p L O R N)
include h
theorem DivA.len:L.length=O.length+1:=by
 have:=congrArg List.length h.out
 simpa using this
theorem DivA.out_at {i:Nat} (hi:i<L.length) (h1:1≤i):L[i].out=O[i-1]'(by have:=h.len;omega):=by
 have e:(L.map (·.out))[i]'(by simpa using hi)=L[i].out:=by rw [List.getElem_map]
 rw [← e]
 have h2:=h.out
 obtain ⟨j,rfl⟩:∃ j,i=j+1:=⟨i-1,by omega⟩
 simp only [h2,List.getElem_cons_succ,Nat.add_sub_cancel]
theorem DivA.out_zero (h0:0<L.length):L[0].out=[]:=by
 have e:(L.map (·.out))[0]'(by simpa using h0)=L[0].out:=by rw [List.getElem_map]
 rw [← e]
 have h2:=h.out
 simp only [h2,List.getElem_cons_zero]
theorem DivA.out_mem {x:AD} (hx:x∈L):x.out=[]∨x.out∈O:=by
 have:x.out∈L.map (·.out):=List.mem_map_of_mem hx
 rw [h.out] at this
 rcases List.mem_cons.1 this with e | e
 · exact .inl e
 · exact .inr e
theorem DivA.more (hR:R=[]) (hN:N=[]) (x:AD) (h2:x.inn=[]) (h3:x.alo=[]):DivA p (L++[x]) (O++[x.out]) R N:=by
 subst hR hN
 have hl:=h.len
 refine ⟨by rw [List.map_append,h.out];rfl,fun i hi=>?_,fun i hi=>?_⟩
 ·
  by_cases e:i<L.length
  · rw [List.getElem_append_left e,h.inn i e];rfl
  ·
   have:i=L.length:=by simp at hi;omega
   subst this
   simp [h2]
 ·
  by_cases e:i<L.length
  · rw [List.getElem_append_left e,h.alo i e];rfl
  ·
   have:i=L.length:=by simp at hi;omega
   subst this
   simp [h3]
theorem DivA.inner (hn:O.Nodup) {b:Nat} (hb:b<L.length) (c:List Int) (sv iv':SV) (hh:homeP p (cycPt p c)=keyA O b) :
  DivA p (L.set b {L[b] with inn:=L[b].inn++[(c,sv)],iv:=iv'}) O (R++[c]) N:=by
 have hl:=h.len
 refine ⟨?_,fun i hi=>?_,fun i hi=>?_⟩
 ·
  rw [← h.out]
  apply List.ext_getElem (by simp)
  intro i h1 h2
  rw [List.getElem_map,List.getElem_map,List.getElem_set]
  split
  · rename_i e;subst e;rfl
  · rfl
 ·
  simp only [List.length_set] at hi
  rw [List.getElem_set,List.filter_append]
  split
  ·
   rename_i e
   subst e
   rw [List.map_append,h.inn b hb,List.filter_cons,if_pos (by simpa using hh)]
   rfl
  ·
   rename_i e
   rw [h.inn i hi,List.filter_cons,if_neg (by
    rw [decide_eq_true_eq,hh]
    exact fun g=>e (keyA_inj hn (by omega) (by omega) g)),List.filter_nil,List.append_nil]
 ·
  simp only [List.length_set] at hi
  rw [List.getElem_set]
  split
  · rename_i e;subst e;exact h.alo b hb
  · exact h.alo i hi
theorem DivA.lone (hn:O.Nodup) {b:Nat} (hb:b<L.length) (n:Nd) (av':SV) (h0:degS p.arcs n.id=0) (hh:homeP p n.pt=keyA O b) :
  DivA p (L.set b {L[b] with alo:=L[b].alo++[n.id],av:=av'}) O R (N++[n]):=by
 have hl:=h.len
 refine ⟨?_,fun i hi=>?_,fun i hi=>?_⟩
 ·
  rw [← h.out]
  apply List.ext_getElem (by simp)
  intro i h1 h2
  rw [List.getElem_map,List.getElem_map,List.getElem_set]
  split
  · rename_i e;subst e;rfl
  · rfl
 ·
  simp only [List.length_set] at hi
  rw [List.getElem_set]
  split
  · rename_i e;subst e;exact h.inn b hb
  · exact h.inn i hi
 ·
  simp only [List.length_set] at hi
  rw [List.getElem_set,List.filter_append]
  split
  ·
   rename_i e
   subst e
   rw [List.map_append,h.alo b hb,List.filter_cons,if_pos (by rw [decide_eq_true_eq];exact ⟨h0,hh⟩)]
   rfl
  ·
   rename_i e
   rw [h.alo i hi,List.filter_cons,if_neg (by
    rw [decide_eq_true_eq,hh]
    exact fun g=>e (keyA_inj hn (by omega) (by omega) g.2)),List.filter_nil,List.append_nil]
theorem DivA.pass (n:Nd) (h0:degS p.arcs n.id≠0):DivA p L O R (N++[n]) :=
 ⟨h.out,h.inn,fun i hi=>by
  rw [h.alo i hi,List.filter_append,List.filter_cons,if_neg (by rw [decide_eq_true_eq];exact fun g=>h0 g.1),List.filter_nil,List.append_nil]⟩
theorem DivA.home (hO:O=outX p) (hT:TwA p L) {v:Pt} {b:Nat} (hb:bestIx p v L (L.length-1) b):b<L.length∧homeP p v=keyA O b:=by
 have hl:=h.len
 have ht:L.tail.take (L.length-1)=L.tail:=List.take_of_length_le (by simp)
 have hm:L.tail.map (·.out)=O:=by rw [List.map_tail,h.out];rfl
 have e1:homeP p v=(bestC (fun x:AD=>encS p x.out v) (fun x:AD=>x.tw) L.tail).map (·.out):=by
  unfold homeP
  rw [← hO,← hm,best_map]
  congr 1
  refine best_congr fun x hx=>⟨rfl,?_⟩
  obtain ⟨i,hi,rfl⟩:=List.mem_iff_getElem.1 hx
  rw [List.getElem_tail]
  simp only [List.length_tail] at hi
  exact (hT (i+1) (by omega) (by omega)).symm
 unfold bestIx at hb
 rw [ht] at hb
 rcases hb with ⟨rfl,e⟩ | ⟨hbl,h1,h2,e⟩
 ·
  rw [e] at e1
  exact ⟨by omega,by rw [e1];rfl⟩
 ·
  rw [e] at e1
  refine ⟨hbl,?_⟩
  rw [e1,keyA_some h1 (by omega)]
  show some L[b].out=_
  rw [h.out_at hbl h1]
end
theorem DivA.start (p:Pl) (x:AD) (h1:x.out=[]) (h2:x.inn=[]) (h3:x.alo=[]):DivA p [x] [] [] []:=by
 refine ⟨by simp [h1],fun i hi=>?_,fun i hi=>?_⟩
 ·
  have:i=0:=by simp at hi;omega
  subst this;simp [h2]
 ·
  have:i=0:=by simp at hi;omega
  subst this;simp [h3]
section
variable {p:Pl} (h:Valid p)
include h
theorem Valid.cyc_ne {X:List Int} (hX:X∈cyclesD p):X≠[]:=fun e=>by
 obtain ⟨x,-,-,-,hx⟩:=h.cyc_form hX
 rw [e] at hx;cases hx
theorem Valid.cycles_nodup:(cyclesD p).Nodup:=by
 have hp:=h.cyc_perm.nodup_iff.2 h.darts_nodup
 have hd:(cyclesD p).Pairwise (fun a b=>∀ x∈a,∀ y∈b,x≠y):=by
  have h2:=List.pairwise_flatten.1 hp
  exact h2.2
 unfold List.Nodup
 refine List.Pairwise.imp_of_mem (fun {a b} ha hb hab e=>?_) hd
 subst e
 have hne:=h.cyc_ne ha
 cases a with
 | nil=>exact hne rfl
 | cons x a=>exact hab x List.mem_cons_self x List.mem_cons_self rfl
theorem Valid.cycs_len:(cyclesD p).length≤512:=by
 have:∀ L:List (List Int),(∀ X∈L,X≠[])→L.length≤L.flatten.length:=by
  intro L
  induction L with
  | nil=>intro _;exact Nat.le_refl _
  | cons X L ih =>
   intro hL
   have h1:=ih fun Y hY=>hL Y (List.mem_cons_of_mem _ hY)
   have h2:=List.length_pos_iff.2 (hL X List.mem_cons_self)
   rw [List.flatten_cons,List.length_append,List.length_cons]
   omega
 have h1:=this (cyclesD p) fun X hX=>h.cyc_ne hX
 have h2:=h.cyc_perm.length_eq
 have h3:=h.dart_cnt
 omega
theorem Valid.faces_asc:p.faces.Pairwise (· < ·):=by
 have ho:=h.ord
 unfold orderedS at ho
 rw [Bool.and_eq_true,Bool.and_eq_true] at ho
 exact asc_pw _ ho.2
theorem Valid.face_pos {f:Int} (hf:f∈p.faces):1≤f∧f≤1073741824:=by
 have hr:=h.rng
 unfold rangesS at hr
 rw [Bool.and_eq_true] at hr
 have h1:=hr.1
 rw [Bool.not_eq_true',List.any_eq_false] at h1
 have:=h1 f (List.mem_append_right _ hf)
 unfold idBad at this
 simp only [Bool.or_eq_true,decide_eq_true_eq,not_or] at this
 omega
theorem Valid.side_face (d:Int):sideD p d=0∨sideD p d∈p.faces:=by
 have hs:=h.sides
 unfold sidesS at hs
 rw [List.all_eq_true] at hs
 have hf:∀ n,faceS p.faces n=true→n=0∨n∈p.faces:=fun n hn=>by
  unfold faceS at hn
  rw [Bool.or_eq_true,List.any_eq_true] at hn
  rcases hn with ⟨x,hx,e⟩ | e
  · have:=eq_of_beq e;subst this;exact .inr hx
  · exact .inl (eq_of_beq e)
 unfold sideD
 split
 · exact .inl rfl
 ·
  rename_i a e
  have ha:a∈p.arcs:=by
   unfold arcD at e
   split at e
   · cases e
   · exact List.mem_of_find?_eq_some e
  have:=hs a ha
  rw [Bool.and_eq_true] at this
  split
  · exact hf _ this.1
  · exact hf _ this.2
theorem Valid.side_bd (d:Int):0≤sideD p d∧sideD p d≤1073741824:=by
 rcases h.side_face d with e | e
 · omega
 · have:=h.face_pos e;omega
theorem Valid.outX_nodup:(outX p).Nodup:=h.cycles_nodup.filter _
end
def fcI (p:Pl) (O:List (List Int)) (i:Nat):Int:=faceX p (keyA O i)
def cyI (p:Pl) (O:List (List Int)) (i:Nat):List (List Int):=cysX p (keyA O i)
structure FacU (p:Pl) (O:List (List Int)) (k:Nat):Prop where
 some:∀ i,1≤i→i<k→fcI p O i≠0
 differ:∀ i j,1≤i→i<j→j<k→fcI p O i≠fcI p O j
 sides:∀ i,i<k→∀ c∈cyI p O i,∀ d∈c,sideD p d=fcI p O i
theorem FacU.zero (p:Pl) (O:List (List Int)):FacU p O 0:=⟨fun i _ h=>by omega,fun i j _ _ h=>by omega,fun i h=>by omega⟩
def seenF (p:Pl) (O:List (List Int)) (k:Nat):List Int:=(List.range (k-1)).map fun i=>fcI p O (i+1)
theorem seenF_succ (p:Pl) (O:List (List Int)) {k:Nat} (h:1≤k):seenF p O (k+1)=seenF p O k++[fcI p O k]:=by
 unfold seenF
 rw [show k+1-1=(k-1)+1 by omega,List.range_succ,List.map_append]
 simp only [List.map_cons,List.map_nil]
 rw [show k-1+1=k by omega]
theorem mem_seenF {p:Pl} {O:List (List Int)} {k:Nat} {x:Int}:x∈seenF p O k↔∃ i,1≤i∧i<k∧fcI p O i=x:=by
 unfold seenF
 rw [List.mem_map]
 constructor
 ·
  rintro ⟨i,hi,rfl⟩
  rw [List.mem_range] at hi
  exact ⟨i+1,by omega,by omega,rfl⟩
 ·
  rintro ⟨i,h1,h2,rfl⟩
  exact ⟨i-1,by rw [List.mem_range];omega,by rw [show i-1+1=i by omega]⟩
theorem seenF_len (p:Pl) (O:List (List Int)) (k:Nat):(seenF p O k).length=k-1:=by unfold seenF;simp
theorem FacU.succ {p:Pl} {O:List (List Int)} {k:Nat} (h:FacU p O k) (h1:1≤k→fcI p O k≠0) (h2:1≤k→fcI p O k∉seenF p O k) (h3:∀ c∈cyI p O k,∀ d∈c,sideD p d=fcI p O k):FacU p O (k+1):=by
 refine ⟨fun i hi hk=>?_,fun i j hi hj hk=>?_,fun i hi=>?_⟩
 ·
  by_cases e:i=k
  · subst e;exact h1 hi
  · exact h.some i hi (by omega)
 ·
  by_cases e:j=k
  ·
   subst e
   exact fun g=>h2 (by omega) (mem_seenF.2 ⟨i,hi,hj,g⟩)
  · exact h.differ i j hi hj (by omega)
 ·
  by_cases e:i=k
  · subst e;exact h3
  · exact h.sides i (by omega)
theorem fcI_some {p:Pl} {O:List (List Int)} {i:Nat} (h1:1≤i) (hi:i≤O.length):fcI p O i=sideD p ((O[i-1]'(by omega)).headD 0):=by
 unfold fcI;rw [keyA_some h1 hi];rfl
theorem FacU.iff {p:Pl} {O:List (List Int)} (hp:O.Perm (outX p)):FaceOK p↔FacU p O (O.length+1)∧O.length=p.faces.length:=by
 constructor
 ·
  intro h
  refine ⟨⟨fun i h1 h2=>?_,fun i j h1 h2 h3=>?_,fun i hi=>?_⟩,by rw [hp.length_eq];exact h.all⟩
  ·
   rw [fcI_some h1 (by omega)]
   exact h.some _ (hp.subset (List.getElem_mem _))
  ·
   rw [fcI_some h1 (by omega),fcI_some (by omega) (by omega)]
   intro e
   have hd:=(hp.map (fun X=>sideD p (X.headD 0))).nodup_iff.2 h.differ
   unfold List.Nodup at hd
   rw [List.pairwise_map,List.pairwise_iff_getElem] at hd
   exact hd (i-1) (j-1) (by omega) (by omega) (by omega) e
  ·
   refine h.sides _ ?_
   by_cases e:i=0
   · subst e;exact .inl rfl
   ·
    rw [keyA_some (by omega) (by omega)]
    exact .inr ⟨_,hp.subset (List.getElem_mem _),rfl⟩
 ·
  rintro ⟨h,ha⟩
  refine ⟨fun X hX=>?_,?_,fun b hb=>?_,by rw [← hp.length_eq];exact ha⟩
  ·
   obtain ⟨i,hi,rfl⟩:=List.mem_iff_getElem.1 (hp.symm.subset hX)
   have:=h.some (i+1) (by omega) (by omega)
   rw [fcI_some (by omega) (by omega)] at this
   exact this
  ·
   refine (hp.map (fun X=>sideD p (X.headD 0))).nodup_iff.1 ?_
   unfold List.Nodup
   rw [List.pairwise_map,List.pairwise_iff_getElem]
   intro i j hi hj hij
   have:=h.differ (i+1) (j+1) (by omega) (by omega) (by omega)
   rw [fcI_some (by omega) (by omega),fcI_some (by omega) (by omega)] at this
   exact this
  ·
   rcases hb with rfl | ⟨X,hX,rfl⟩
   · exact h.sides 0 (by omega)
   ·
    obtain ⟨i,hi,rfl⟩:=List.mem_iff_getElem.1 (hp.symm.subset hX)
    have:=h.sides (i+1) (by omega)
    unfold cyI fcI at this
    rw [keyA_some (by omega) (by omega)] at this
    exact this
def regsX (p:Pl):List (Option (List Int)):=none::(outX p).map some
def facB (p:Pl):Bool:=(outX p).all (fun X=>sideD p (X.headD 0) != 0) && decide ((outX p).map (fun X=>sideD p (X.headD 0))).Nodup && (regsX p).all (fun b=>(cysX p b).all fun c=>c.all fun d=>sideD p d == faceX p b) && decide ((outX p).length=p.faces.length)
theorem facB_iff {p:Pl}:facB p=true↔FaceOK p:=by
 unfold facB regsX
 simp only [Bool.and_eq_true,decide_eq_true_eq,List.all_eq_true,List.mem_cons,List.mem_map,bne_iff_ne,beq_iff_eq]
 constructor
 ·
  rintro ⟨⟨⟨h1,h2⟩,h3⟩,h4⟩
  refine ⟨h1,h2,fun b hb=>h3 b ?_,h4⟩
  rcases hb with h | ⟨X,hX,h⟩
  · exact .inl h
  · exact .inr ⟨X,hX,h.symm⟩
 ·
  rintro ⟨h1,h2,h3,h4⟩
  refine ⟨⟨⟨h1,h2⟩,fun b hb=>h3 b ?_⟩,h4⟩
  rcases hb with h | ⟨X,hX,h⟩
  · exact .inl h
  · exact .inr ⟨X,hX,h.symm⟩
theorem facB_iffU {p:Pl} {O:List (List Int)} (hp:O.Perm (outX p)):facB p=true↔FacU p O (O.length+1)∧O.length=p.faces.length:=facB_iff.trans (FacU.iff hp)
end Go.Proofs.YtnhdmghgjngcaaaGreat
namespace Go.Proofs.YtnhdmghgjngcaaaGreat
open Go.RowKit

def CyR (w:World) (v:Value) (L:List (List Int×SV)):Prop:=Sl w v L.length (L.flatMap cyC)∧∀ x∈L,Ints w (.slice x.2.a x.2.n x.2.c) x.1
theorem CyR.mono {w w':World} {v:Value} {L:List (List Int×SV)} (h:CyR w v L) (hb:Below w.heap.size w w'):CyR w' v L :=
 ⟨Sl.mono h.1 hb,fun x hx=>(h.2 x hx).mono hb⟩
theorem CysO.read {w:World} {B:Nat} {v:Value} {L:List (List Int×SV)} (h:CysO w B v L):CyR w v L:=⟨h.1.sl,fun x hx=>(h.2 x hx).sl⟩
theorem Row.cy {w:World} {A:Option Addr} {l:List (List Int×SV)} (h:Row w A (l.flatMap cyC)) {k:Nat} (hk:k<l.length) :
  ∃ b o,A=some ⟨b,o,none⟩∧b<w.heap.size∧w.cell? ⟨b,o+k,none⟩=some (.slice l[k].2.a l[k].2.n l[k].2.c):=by
 obtain ⟨b,o,hA,hb,hc⟩:=h.at_ (n:=1) (fun _=>rfl) hk (by omega)
 exact ⟨b,o,hA,hb,by simpa using hc 0 _ rfl⟩

end Go.Proofs.YtnhdmghgjngcaaaGreat
namespace Go.Proofs.YtnhdmghgjngcaaaGreat
open Go.RowKit

theorem SepV.symm {u v:Value} (h:SepV u v):SepV v u:=fun g hg e=>h g e hg
theorem pair_at {α:Type} {R:α→α→Prop} (hs:∀ a b,R a b→R b a) {l:List α} (h:l.Pairwise R) {i j:Nat} (hi:i<l.length) (hj:j<l.length) (hne:i≠j):R l[i] l[j]:=by
 rw [List.pairwise_iff_getElem] at h
 by_cases c:i<j
 · exact h i j hi hj c
 · exact hs _ _ (h j i hj hi (by omega))
theorem mem_set_at {α:Type} {l:List α} {i:Nat} {y x:α} (h:x∈l.set i y):(x=y∧i<l.length)∨∃ j,∃ hj:j<l.length,j≠i∧x=l[j]:=by
 obtain ⟨j,hj,rfl⟩:=List.mem_iff_getElem.1 h
 have hj':j<l.length:=by simpa using hj
 rw [List.getElem_set]
 by_cases e:i=j
 · subst e;rw [if_pos rfl];exact .inl ⟨rfl,hj'⟩
 · rw [if_neg e];exact .inr ⟨j,hj',fun h=>e h.symm,rfl⟩
theorem AdT.read {e:TypeId} {w0 w:World} {B:Nat} {v:Value} {L:List AD} (h:AdT e w0 w B v L) (hb:Below w0.heap.size w0 w):AdR w v L:=⟨h.own.sl,fun x hx=>(h.out x hx).mono hb⟩
theorem Own.row_of {α:Type} {f:α→List Value} {w:World} {base:Nat} {e:TypeId} {size:Nat} {A:Option Addr} {n c:Nat} {l:List α} (h:Own w base e size f (.slice A n c) l):Row w A (l.flatMap f):=by
 obtain ⟨A',c',he,-,-,hr⟩:=h.sl
 injection he with e1 e2 e3
 subst e1
 exact hr
theorem Own.ad_cell {e:TypeId} {w:World} {B:Nat} {A:Option Addr} {n c:Nat} {L:List AD} (h:Own w B e 4 adC (.slice A n c) L) (hl:0<L.length):∃ g,A=some ⟨g,0,none⟩∧B≤g∧g<w.heap.size∧(∀ j,w.frozen? ⟨g,j,none⟩=false) ∧
  ∀ k (hk:k<L.length),w.cell? ⟨g,k*4,none⟩=some (.int .i64 L[k].tw)∧w.cell? ⟨g,k*4+1,none⟩=some (svV L[k].ov)∧w.cell? ⟨g,k*4+2,none⟩=some (svV L[k].iv)∧w.cell? ⟨g,k*4+3,none⟩=some (svV L[k].av):=by
 have hr:=h.row_of
 rcases h.2 with ⟨_,h0⟩ | ⟨g,cap,cur,hv,hg,hh,-⟩
 · omega
 ·
  injection hv with e1 e2 e3
  subst e1
  refine ⟨g,rfl,hg,Blk.lt hh,fun j=>Blk.frozen hh j,fun k hk=>?_⟩
  obtain ⟨b,o,hbo,-,c0,c1,c2,c3⟩:=hr.ad hk
  injection hbo with hbo
  injection hbo with y1 y2 _
  subst y1 y2
  simp only [Nat.zero_add] at c0 c1 c2 c3
  exact ⟨c0,c1,c2,c3⟩
structure AdF (w:World) (v:Value) (L:List AD):Prop where
 sl:Sl w v L.length (L.flatMap adC)
 out:∀ x∈L,Ints w (svV x.ov) x.out
 inn:∀ x∈L,Sl w (svV x.iv) x.inn.length (x.inn.flatMap cyC)
 cyc:∀ x∈L,∀ c∈x.inn,Ints w (svV c.2) c.1
 alo:∀ x∈L,Ints w (svV x.av) x.alo
theorem AdF.mono {w w':World} {v:Value} {L:List AD} (h:AdF w v L) (hb:Below w.heap.size w w'):AdF w' v L :=
 ⟨h.sl.mono hb,fun x hx=>(h.out x hx).mono hb,fun x hx=>(h.inn x hx).mono hb,fun x hx c hc=>(h.cyc x hx c hc).mono hb,fun x hx=>(h.alo x hx).mono hb⟩
theorem AdT.full {e:TypeId} {w0 w:World} {B:Nat} {v:Value} {L:List AD} (h:AdT e w0 w B v L) (hb:Below w0.heap.size w0 w):AdF w v L :=
 ⟨h.own.sl,fun x hx=>(h.out x hx).mono hb,fun x hx=>(h.inn x hx).sl,fun x hx c hc=>(h.cyc x hx c hc).mono hb,fun x hx=>(h.alo x hx).sl⟩
theorem AdT.more {e:TypeId} (he:e≠24∧e≠3) {w0 w w1:World} {B:Nat} {v v':Value} {L:List AD} (h:AdT e w0 w B v L) {x:AD} (ho:Own w1 B e 4 adC v' (L++[x])) (hg:w.grownBy w1 v.ownBlock)
  (hx:Ints w0 (svV x.ov) x.out) (h1:x.inn=[]) (h2:x.iv=sv0) (h3:x.alo=[]) (h4:x.av=sv0):AdT e w0 w1 B v' (L++[x]):=by
 have s0:∀ u,SepV u (svV sv0):=fun u g _ e=>by cases e
 refine ⟨ho,fun y hy=>?_,fun y hy=>?_,fun y hy=>?_,fun y hy=>?_,?_,?_⟩
 ·
  rcases List.mem_append.1 hy with hy | hy
  · exact h.out y hy
  · rw [List.mem_singleton] at hy;subst hy;exact hx
 ·
  rcases List.mem_append.1 hy with hy | hy
  · exact Own.grown (h.inn y hy) hg (fun g hg'=>Own.apart (h.inn y hy) h.own he.1.symm g hg')
  ·
   rw [List.mem_singleton] at hy;subst hy
   rw [h1,h2];exact Own.nil _ _ _ _ _
 ·
  rcases List.mem_append.1 hy with hy | hy
  · exact h.cyc y hy
  ·
   rw [List.mem_singleton] at hy;subst hy
   rw [h1];intro c hc;cases hc
 ·
  rcases List.mem_append.1 hy with hy | hy
  · exact Own.grown (h.alo y hy) hg (fun g hg'=>Own.apart (h.alo y hy) h.own he.2.symm g hg')
  ·
   rw [List.mem_singleton] at hy;subst hy
   rw [h3,h4];exact Own.nil _ _ _ _ _
 ·
  rw [List.pairwise_append]
  refine ⟨h.sepI,List.pairwise_singleton _ _,fun a _ b hb=>?_⟩
  rw [List.mem_singleton] at hb;subst hb
  rw [h2];exact s0 _
 ·
  rw [List.pairwise_append]
  refine ⟨h.sepA,List.pairwise_singleton _ _,fun a _ b hb=>?_⟩
  rw [List.mem_singleton] at hb;subst hb
  rw [h4];exact s0 _
theorem AdT.grownZ {e:TypeId} (he:e≠24∧e≠3) {w0 w w1:World} {B B':Nat} {v u:Value} {L:List AD} {R:List (List Int×SV)} (h:AdT e w0 w B v L) (hg:w.grownBy w1 u.ownBlock) (hu:Own w B' 24 1 cyC u R) (hz:∀ x∈L,x.iv=sv0):AdT e w0 w1 B v L:=by
 refine ⟨Own.grown h.own hg (fun g hg'=>Own.apart h.own hu he.1 g hg'),h.out,fun x hx=>?_,h.cyc,fun x hx=>Own.grown (h.alo x hx) hg (fun g hg'=>Own.apart (h.alo x hx) hu (by decide) g hg'),h.sepI,h.sepA⟩
 refine Own.grown (h.inn x hx) hg (fun g hg'=>?_)
 rw [hz x hx] at hg'
 cases hg'
theorem AdT.setInn {e:TypeId} (he:e≠24∧e≠3) {w0 w w1:World} {B g n cc:Nat} {L:List AD} (h:AdT e w0 w B (.slice (some ⟨g,0,none⟩) n cc) L) {i:Nat} (hi:i<L.length) {iv':SV} {c:List Int×SV}
  (ho:Own w1 B 24 1 cyC (svV iv') (L[i].inn++[c])) (hg:w.grownBy w1 (svV L[i].iv).ownBlock) (hat:(svV iv').ownBlock=(svV L[i].iv).ownBlock∨(svV iv').ownBlock=some w.heap.size) (hc:Ints w0 (svV c.2) c.1) :
  AdT e w0 (w1.setCell ⟨g,i*4+2,none⟩ (svV iv')) B (.slice (some ⟨g,0,none⟩) n cc) (L.set i {L[i] with inn:=L[i].inn++[c],iv:=iv'}):=by
 have hgv:(Value.slice (some ⟨g,0,none⟩) n cc).ownBlock=some g:=rfl
 have hm:=List.getElem_mem hi
 have own1:Own w1 B e 4 adC (.slice (some ⟨g,0,none⟩) n cc) L:=Own.grown h.own hg (fun g' hg'=>Own.apart h.own (h.inn _ hm) he.1 g' hg')
 have far1:∀ {b:Nat} {e9:TypeId} {s:Nat} {α:Type} {f:α→List Value} {v:Value} {l:List α},Own w1 b e9 s f v l→e9≠e→Own (w1.setCell ⟨g,i*4+2,none⟩ (svV iv')) b e9 s f v l:=fun h9 hne=>Own.far h9 (fun e8=>Own.apart h9 own1 hne g e8 hgv.symm) _
 have sep1:∀ j (hj:j<L.length),j≠i→SepV (svV L[j].iv) (svV iv'):=fun j hj hji g' hg' e=>by
  rcases hat with h9 | h9
  ·
   rw [h9] at e
   exact pair_at (fun a b=>SepV.symm) h.sepI hj hi hji g' hg' e
  ·
   rw [h9] at e
   have:=((h.inn _ (List.getElem_mem hj)).lt g' hg').2
   have:=Option.some.inj e
   omega
 refine ⟨Own.put_cell adC_len own1 hi (by omega) _ _ rfl,fun x hx=>?_,fun x hx=>?_,fun x hx=>?_,fun x hx=>?_,?_,?_⟩
 ·
  rcases mem_set_at hx with ⟨rfl,_⟩ | ⟨j,hj,_,rfl⟩
  · exact h.out L[i] hm
  · exact h.out _ (List.getElem_mem hj)
 ·
  rcases mem_set_at hx with ⟨rfl,_⟩ | ⟨j,hj,hji,rfl⟩
  · exact far1 ho he.1.symm
  · exact far1 (Own.grown (h.inn _ (List.getElem_mem hj)) hg (fun g' hg' e=>pair_at (fun a b=>SepV.symm) h.sepI hj hi hji g' hg' e.symm)) he.1.symm
 ·
  rcases mem_set_at hx with ⟨rfl,_⟩ | ⟨j,hj,_,rfl⟩
  ·
   intro d hd
   rcases List.mem_append.1 hd with hd | hd
   · exact h.cyc L[i] hm d hd
   · rw [List.mem_singleton] at hd;subst hd;exact hc
  · exact h.cyc _ (List.getElem_mem hj)
 ·
  have:∀ y∈L,Own (w1.setCell ⟨g,i*4+2,none⟩ (svV iv')) B 3 1 inC (svV y.av) y.alo:=fun y hy=>far1 (Own.grown (h.alo y hy) hg (fun g' hg'=>Own.apart (h.alo y hy) (h.inn _ hm) (by decide) g' hg')) he.2.symm
  rcases mem_set_at hx with ⟨rfl,_⟩ | ⟨j,hj,_,rfl⟩
  · exact this L[i] hm
  · exact this _ (List.getElem_mem hj)
 ·
  rw [List.pairwise_iff_getElem]
  intro a b ha hb hab
  simp only [List.length_set] at ha hb
  rw [List.getElem_set,List.getElem_set]
  by_cases e1:i=a
  ·
   subst e1
   rw [if_pos rfl,if_neg (by omega)]
   exact (sep1 b hb (by omega)).symm
  ·
   rw [if_neg e1]
   by_cases e2:i=b
   ·
    subst e2
    rw [if_pos rfl]
    exact sep1 a ha (by omega)
   ·
    rw [if_neg e2]
    exact pair_at (fun a b=>SepV.symm) h.sepI ha hb (by omega)
 ·
  have e:(L.set i {L[i] with inn:=L[i].inn++[c],iv:=iv'}).map (·.av)=L.map (·.av):=by
   apply List.ext_getElem (by simp)
   intro j h1 h2
   rw [List.getElem_map,List.getElem_map,List.getElem_set]
   split
   · rename_i e;subst e;rfl
   · rfl
  have hp:(L.map (·.av)).Pairwise (fun x y=>SepV (svV x) (svV y)):=List.pairwise_map.2 h.sepA
  rw [← e] at hp
  exact (List.pairwise_map (f:=fun x:AD=>x.av) (R:=fun x y=>SepV (svV x) (svV y))).1 hp
theorem AdT.setAlo {e:TypeId} (he:e≠24∧e≠3) {w0 w w1:World} {B g n cc:Nat} {L:List AD} (h:AdT e w0 w B (.slice (some ⟨g,0,none⟩) n cc) L) {i:Nat} (hi:i<L.length) {av':SV} {c:Int}
  (ho:Own w1 B 3 1 inC (svV av') (L[i].alo++[c])) (hg:w.grownBy w1 (svV L[i].av).ownBlock) (hat:(svV av').ownBlock=(svV L[i].av).ownBlock∨(svV av').ownBlock=some w.heap.size) :
  AdT e w0 (w1.setCell ⟨g,i*4+3,none⟩ (svV av')) B (.slice (some ⟨g,0,none⟩) n cc) (L.set i {L[i] with alo:=L[i].alo++[c],av:=av'}):=by
 have hgv:(Value.slice (some ⟨g,0,none⟩) n cc).ownBlock=some g:=rfl
 have hm:=List.getElem_mem hi
 have own1:Own w1 B e 4 adC (.slice (some ⟨g,0,none⟩) n cc) L:=Own.grown h.own hg (fun g' hg'=>Own.apart h.own (h.alo _ hm) he.2 g' hg')
 have far1:∀ {b:Nat} {e9:TypeId} {s:Nat} {α:Type} {f:α→List Value} {v:Value} {l:List α},Own w1 b e9 s f v l→e9≠e→Own (w1.setCell ⟨g,i*4+3,none⟩ (svV av')) b e9 s f v l:=fun h9 hne=>Own.far h9 (fun e8=>Own.apart h9 own1 hne g e8 hgv.symm) _
 have sep1:∀ j (hj:j<L.length),j≠i→SepV (svV L[j].av) (svV av'):=fun j hj hji g' hg' e=>by
  rcases hat with h9 | h9
  ·
   rw [h9] at e
   exact pair_at (fun a b=>SepV.symm) h.sepA hj hi hji g' hg' e
  ·
   rw [h9] at e
   have:=((h.alo _ (List.getElem_mem hj)).lt g' hg').2
   have:=Option.some.inj e
   omega
 refine ⟨Own.put_cell adC_len own1 hi (by omega) _ _ rfl,fun x hx=>?_,fun x hx=>?_,fun x hx=>?_,fun x hx=>?_,?_,?_⟩
 ·
  rcases mem_set_at hx with ⟨rfl,_⟩ | ⟨j,hj,_,rfl⟩
  · exact h.out L[i] hm
  · exact h.out _ (List.getElem_mem hj)
 ·
  have:∀ y∈L,Own (w1.setCell ⟨g,i*4+3,none⟩ (svV av')) B 24 1 cyC (svV y.iv) y.inn:=fun y hy=>far1 (Own.grown (h.inn y hy) hg (fun g' hg'=>Own.apart (h.inn y hy) (h.alo _ hm) (by decide) g' hg')) he.1.symm
  rcases mem_set_at hx with ⟨rfl,_⟩ | ⟨j,hj,hji,rfl⟩
  · exact this L[i] hm
  · exact this _ (List.getElem_mem hj)
 ·
  rcases mem_set_at hx with ⟨rfl,_⟩ | ⟨j,hj,_,rfl⟩
  · exact h.cyc L[i] hm
  · exact h.cyc _ (List.getElem_mem hj)
 ·
  rcases mem_set_at hx with ⟨rfl,_⟩ | ⟨j,hj,hji,rfl⟩
  · exact far1 ho he.2.symm
  · exact far1 (Own.grown (h.alo _ (List.getElem_mem hj)) hg (fun g' hg' e=>pair_at (fun a b=>SepV.symm) h.sepA hj hi hji g' hg' e.symm)) he.2.symm
 ·
  have e:(L.set i {L[i] with alo:=L[i].alo++[c],av:=av'}).map (·.iv)=L.map (·.iv):=by
   apply List.ext_getElem (by simp)
   intro j h1 h2
   rw [List.getElem_map,List.getElem_map,List.getElem_set]
   split
   · rename_i e;subst e;rfl
   · rfl
  have hp:(L.map (·.iv)).Pairwise (fun x y=>SepV (svV x) (svV y)):=List.pairwise_map.2 h.sepI
  rw [← e] at hp
  exact (List.pairwise_map (f:=fun x:AD=>x.iv) (R:=fun x y=>SepV (svV x) (svV y))).1 hp
 ·
  rw [List.pairwise_iff_getElem]
  intro a b ha hb hab
  simp only [List.length_set] at ha hb
  rw [List.getElem_set,List.getElem_set]
  by_cases e1:i=a
  ·
   subst e1
   rw [if_pos rfl,if_neg (by omega)]
   exact (sep1 b hb (by omega)).symm
  ·
   rw [if_neg e1]
   by_cases e2:i=b
   ·
    subst e2
    rw [if_pos rfl]
    exact sep1 a ha (by omega)
   ·
    rw [if_neg e2]
    exact pair_at (fun a b=>SepV.symm) h.sepA ha hb (by omega)
end Go.Proofs.YtnhdmghgjngcaaaGreat
