import Derived.Shelf.SlSortCmp.NoneTotal
import Derived.Test.YtnhdmghgjngcaaaGreatJ05
import Derived.Test.YtnhdmghgjngcaaaGreatLaySort
set_option linter.unusedSimpArgs false
set_option linter.unusedVariables false
namespace Go.Proofs.YtnhdmghgjngcaaaGreat
open Go.RowKit Go.Sort

theorem belowD_grow {w w':World} (h:BelowD w w'):∃ q os',w'=grow (w.drewN q) os':=by
 obtain ⟨hb,hd⟩:=h
 refine ⟨w'.drawn-w.drawn,w'.heap.extract w.heap.size w'.heap.size,?_⟩
 have hh:w'.heap=w.heap++w'.heap.extract w.heap.size w'.heap.size:=by
  apply Array.ext
  · have:=hb.size;simp;omega
  ·
   intro i h1 h2
   by_cases hi:i<w.heap.size
   ·
    rw [Array.getElem_append_left hi]
    have:=hb.block i hi
    rw [Array.getElem?_eq_getElem h1,Array.getElem?_eq_getElem hi] at this
    injection this
   ·
    rw [Array.getElem_append_right (by omega),Array.getElem_extract]
    congr 1
    omega
 have h1:=hb.os;have h2:=hb.tape;have h3:=hb.output
 cases w;cases w'
 simp only [grow,World.drewN,World.mk.injEq] at *
 exact ⟨hh,h2,by omega,h1,h3⟩

section
variable {α:Type} [Inhabited α] (enc:α→List Value) (k:Nat) (w:World)
theorem sort_heap (blk off m:Nat) (dk:Array α) (os:Array Obj):(sortWorldK enc k w blk off m dk os).heap=w.heap.modify blk (onCells (putCells id off (flatK enc k dk)))++os:=rfl
theorem sort_grown (blk off m:Nat) (dk:Array α) (os:Array Obj):w.grownBy (sortWorldK enc k w blk off m dk os) (some blk):=by
 refine ⟨rfl,rfl,rfl,?_,fun i hi hne=>?_⟩
 · rw [sort_heap];simp
 ·
  have hne':blk≠i:=fun e=>hne (by rw [e])
  rw [sort_heap,Array.getElem?_append_left (by simpa using hi),Array.getElem?_modify,if_neg hne']
end

theorem ltOf_cmp {α:Type} (f:α→Int) (x y:α):ltOf (fun x y=>cmpI (f x) (f y)) x y=decide (f x<f y):=by
 unfold ltOf cmpI
 by_cases h:f x<f y
 · simp [h]
 · by_cases h':f y<f x<;>simp [h,h']
theorem swo_cmp {α:Type} (f:α→Int):SWO (ltOf (fun x y:α=>cmpI (f x) (f y))) where
 irrefl x:=by rw [ltOf_cmp];simp
 trans x y z h1 h2:=by rw [ltOf_cmp] at *;simp at *;omega
 ntrans x y z h1 h2:=by rw [ltOf_cmp] at *;simp at *;omega

def RetSorted (w:World) (base:Nat) (v:Value) (sl:List PSg) (e:Ending) (w':World):Prop :=
 e=.returned (.tuple #[])∧∃ sl':List PSg,sl'.Perm sl∧(∀ i j (hij:i<j) (hj:j<sl'.length),westS (sl'[i]'(by omega))≤westS sl'[j])∧Own w' base 154 2 psgC v sl'∧(∀ s∈sl',SgOk w' s)∧w.grownBy w' v.ownBlock

theorem isAgg_seg:∀ w,(isAgg 154).run Tryz.prog w=.ok true w:=fun _=>by kernel_rfl
theorem sizeOf_seg:∀ w,(Go.sizeOf 154).run Tryz.prog w=.ok 2 w:=fun _=>by kernel_rfl

theorem flatK_list {α:Type} [Inhabited α] (enc:α→List Value) (k:Nat) (hk:∀ x,(enc x).length=k) (d:Array α) (j:Nat) (hj:j<d.size*k) :
  (flatK enc k d)[j]! = (d.toList.flatMap enc)[j]! := by
 rw [get_flatK _ _ _ _ hj]
 have hk0:0<k:=by
  rcases Nat.eq_zero_or_pos k with h | h
  · subst h;simp at hj
  · exact h
 have h1:j / k<d.size:=Nat.div_lt_of_lt_mul (by rw [Nat.mul_comm];exact hj)
 have h2:j % k<k:=Nat.mod_lt _ hk0
 have e:=flat_get enc k hk d.toList (j / k) (j % k) (by simpa using h1) h2
 rw [Nat.div_add_mod'] at e
 rw [List.getElem!_eq_getElem?_getD,List.getElem!_eq_getElem?_getD,e]
 congr 2
 rw [getElem!_pos d _ h1]
 simp

theorem Sort_seg_spec (base:Nat) (v:Value) (sl:List PSg) (w:World) (hown:Own w base 154 2 psgC v sl) (hok:∀ s∈sl,SgOk w s) (hn:sl.length≤4294967296) :
  Calls Tryz.prog 108 #[v,.func (.func 109) #[] #[]] w (RetSorted w base v sl):=by
 rcases sl with _ | ⟨s0,rest⟩
 ·
  have hv:∃ p cap,v=.slice p 0 cap:=by
   rcases hown.2 with ⟨h,_⟩ | ⟨g,cap,cur,h,_⟩
   · exact ⟨_,_,h⟩
   · exact ⟨_,_,h⟩
  obtain ⟨p,cap,rfl⟩:=hv
  refine Calls.mono (AnyF.slices_SortFunc_none Tryz.sortSeg p cap (.func (.func 109) #[] #[]) w) ?_
  rintro e w' ⟨rfl,rfl⟩
  exact ⟨rfl,[],List.Perm.refl _,fun i j _ hj=>by simp at hj,hown,(fun s hs=>by cases hs),World.grownBy.refl _ _⟩
 generalize hsl:s0::rest=sl at *
 have hs0:s0∈sl:=by rw [← hsl];simp
 have hpos:0<sl.length:=by rw [← hsl];simp
 obtain ⟨hlen,hown2⟩:=hown
 rcases hown2 with ⟨_,h0⟩ | ⟨g,cap,cur,rfl,hg,hh,hnc,hcm,hcs,hx⟩
 · omega
 haveI hI:Inhabited {s:PSg // SgOk w s}:=⟨⟨s0,hok s0 hs0⟩⟩
 have hdl:∃ dl:List {s:PSg // SgOk w s},dl.map (·.1)=sl:=⟨sl.attachWith (SgOk w) hok,by simp⟩
 obtain ⟨dl,hdl⟩:=hdl
 have hdn:dl.length=sl.length:=by rw [← hdl];simp
 have hfm:dl.flatMap (fun x=>psgC x.1)=sl.flatMap psgC:=by rw [← hdl,List.flatMap_map]
 have hrow:∀ g',(some g:Option Nat)=some g'→∃ cs,Blk w g' 154 cs:=fun g' e=>by injection e with e;subst e;exact ⟨cur,hh⟩
 have hcur:∀ j,j<sl.length*2→cur[j]? = (sl.flatMap psgC)[j]? := fun j hj=>by
  rw [← hx,List.getElem?_take,if_pos hj];simp
 have eg:∀ args w,(callFunc 109 args).run Tryz.prog w=.ok (.enter 109 args) w:=enters_of Tryz.func109 (by kernel_rfl) rfl
 have hkk:∀ x:{s:PSg // SgOk w s},(psgC x.1).length=2:=fun _=>rfl
 have hcmp:CmpLays Tryz.prog 109 #[] (fun x:{s:PSg // SgOk w s}=>psgC x.1) 2 (fun x y=>cmpI (westS x.1) (westS y.1)) g 0 dl.toArray.size w:=fun m os dk hdk x y=>by
  have hg':=sort_grown (fun x:{s:PSg // SgOk w s}=>psgC x.1) 2 w g 0 m dk os
  have hx:=x.2.grow hg' hrow (by decide) (by decide)
  have hy:=y.2.grow hg' hrow (by decide) (by decide)
  exact (cmpSeg_spec x.1 y.1 _ hx hy).mono fun e w' h=>⟨h.1,belowD_grow h.2⟩
 have hsz:dl.toArray.size*2=sl.length*2:=by simp [hdn]
 have hH:HoldsK (fun x:{s:PSg // SgOk w s}=>psgC x.1) 2 w g 0 dl.toArray:=fun j hj=>by
  rw [size_flatK,hsz] at hj
  refine ⟨?_,Blk.frozen (t:=154) (cs:=cur) hh _⟩
  rw [cell_of_row w g _ cur 154 (0,0) hh,Nat.zero_add,hcur j hj,flatK_list _ 2 hkk _ j (by rw [hsz];exact hj)]
  simp only [id]
  rw [hfm,List.getElem!_eq_getElem?_getD]
  have:j<(sl.flatMap psgC).length:=by rw [hlen];exact hj
  rw [List.getElem?_eq_getElem this];rfl
 have hcon:=AnyQ.slices_SortFunc Tryz.sortSeg 2 isAgg_seg sizeOf_seg (fun x:{s:PSg // SgOk w s}=>psgC x.1) hkk (fun x=>psgC_one x.1) (fun x y=>cmpI (westS x.1) (westS y.1)) (swo_cmp fun x:{s:PSg // SgOk w s}=>westS x.1) 109 #[] g 0 cap dl.toArray w eg hcmp hH (Blk.lt hh) (by simp;omega)
 have hns:dl.toArray.size=sl.length:=by simp [hdn]
 rw [hns] at hcon
 refine Calls.mono hcon ?_
 rintro e w' ⟨rfl,d',n,os,hp,hs,rfl⟩
 obtain ⟨p1,-,p3⟩:=hp
 have hd':d'.size=sl.length:=by rw [p1,hns]
 have hperm:d'.toList.Perm dl:=by
  have e1:d'.extract 0 sl.length=d':=by rw [← hd'];simp
  have e2:dl.toArray.extract 0 sl.length=dl.toArray:=by rw [← hns];simp
  rw [e1,e2] at p3
  simpa using p3
 have hg':=sort_grown (fun x:{s:PSg // SgOk w s}=>psgC x.1) 2 w g 0 n d' os
 refine ⟨rfl,d'.toList.map (·.1),by rw [← hdl];exact hperm.map _,?_,?_,?_,hg'⟩
 ·
  intro i j hij hj
  have hj':j<d'.size:=by simpa using hj
  have:=hs i j (Nat.zero_le _) hij (by rw [← hd'];exact hj')
  rw [ltOf_cmp (fun x:{s:PSg // SgOk w s}=>westS x.1),decide_eq_false_iff_not,getElem!_pos d' j hj',getElem!_pos d' i (by omega)] at this
  simp only [List.getElem_map,Array.getElem_toList]
  omega
 ·
  have hl':(d'.toList.map (·.1)).length=sl.length:=by simp [hd']
  unfold Own
  rw [hl']
  have hfd:(d'.toList.map (·.1)).flatMap psgC=d'.toList.flatMap (fun x=>psgC x.1):=by rw [List.flatMap_map]
  have hln:((d'.toList.map (·.1)).flatMap psgC).length=sl.length*2:=by rw [flat_length psgC 2 psgC_len,hl']
  refine ⟨hln,.inr ⟨g,cap,putCells id 0 (flatK (fun x:{s:PSg // SgOk w s}=>psgC x.1) 2 d') cur,rfl,hg,?_,hnc,hcm,by simp [putCells,hcs],?_⟩⟩
  ·
   have hgl:g<w.heap.size:=Blk.lt hh
   rw [sort_heap,Array.getElem?_append_left (by simpa using hgl),Array.getElem?_modify,if_pos rfl,hh]
   rfl
  ·
   apply List.ext_getElem?
   intro j
   rw [List.getElem?_take]
   by_cases hj:j<sl.length*2
   ·
    rw [if_pos hj,hfd]
    have hjc:j<cur.size:=by rw [hcs];have:=Nat.mul_le_mul_right 2 hnc;omega
    have hjd:j<d'.size*2:=by rw [hd'];exact hj
    have e1:(putCells id 0 (flatK (fun x:{s:PSg // SgOk w s}=>psgC x.1) 2 d') cur).toList[j]? = some (flatK (fun x:{s:PSg // SgOk w s}=>psgC x.1) 2 d')[j]! := by
     simp [putCells,hjc,hjd]
    rw [e1,flatK_list _ 2 hkk _ j hjd,List.getElem!_eq_getElem?_getD]
    have:j<(d'.toList.flatMap fun x=>psgC x.1).length:=by rw [← hfd,hln];exact hj
    rw [List.getElem?_eq_getElem this];rfl
   · rw [if_neg hj,List.getElem?_eq_none (by rw [hln];omega)]
 ·
  intro s hs
  obtain ⟨x,-,rfl⟩:=List.mem_map.1 hs
  exact x.2.grow hg' hrow (by decide) (by decide)
end Go.Proofs.YtnhdmghgjngcaaaGreat
