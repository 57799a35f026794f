import Derived.Test.YtialfdomhoojiaaGreatGB
import Derived.Test.YtialfdomhoojiaaGreatJ03
import Derived.Test.YtialfdomhoojiaaGreatJ01
import Derived.Test.YtialfdomhoojiaaGreatJ14
import Derived.Test.YtialfdomhoojiaaGreatJ05
import Derived.Test.YtialfdomhoojiaaGreatJ06
import Derived.Test.YtialfdomhoojiaaGreatLaySortRn
import Derived.Laws.CopyRow
import Derived.Laws.IdiomCopy
import Derived.OwnWalk
import Derived.Deep.CutBlock
import Derived.Test.YtialfdomhoojiaaGreatJ13
import Derived.Test.YtialfdomhoojiaaGreatJ07
set_option linter.unusedSimpArgs false
set_option linter.unusedVariables false
namespace Go.Proofs.YtialfdomhoojiaaGreat
open Go.RowKit

theorem bAB {B:Nat} {W w:World} (hB:B≤W.heap.size) (h:Below B W w) (o:Obj):Below B W (w.alloc o):=h.alloc (Nat.le_trans hB h.size) o
theorem bSB {B b i:Nat} {W w:World} (h:Below B W w) (hb:B≤b) (u:Value):Below B W (w.setCell ⟨b,i,none⟩ u):=h.setCell (p:=⟨b,i,none⟩) hb u
end Go.Proofs.YtialfdomhoojiaaGreat
namespace Go.Proofs.YtialfdomhoojiaaGreat
open Go.RowKit

def arS (x:Ar×SV):List Value:=[.int .i64 x.1.id,.int .i64 x.1.fr,.int .i64 x.1.dst,.slice x.2.a x.2.n x.2.c,.int .i64 x.1.left,.int .i64 x.1.right]
theorem arS_len (x:Ar×SV):(arS x).length=6:=rfl
theorem arS_one (x:Ar×SV):∀ u∈arS x,u.oneCell'=true:=by simp [arS,Value.oneCell']
def svA (x:Ar×SV):Ar×Value:=(x.1,.slice x.2.a x.2.n x.2.c)
def svOf:Value→SV
 | .slice a n c=>⟨a,n,c⟩
 | _=>⟨none,0,0⟩
theorem arS_flat (l:List (Ar×SV)):(l.map svA).flatMap arC=l.flatMap arS:=by rw [List.flatMap_map];rfl
theorem Vias.sv {w:World} {al:List (Ar×Value)} (h:Vias w al):∃ bl:List (Ar×SV),al=bl.map svA:=by
 refine ⟨al.map fun x=>(x.1,svOf x.2),?_⟩
 rw [List.map_map]
 have:∀ x∈al,(svA ∘ fun x:Ar×Value=>(x.1,svOf x.2)) x=x:=fun x hx=>by
  obtain ⟨k,hk,rfl⟩:=List.mem_iff_getElem.1 hx
  obtain ⟨A,c,hv,-⟩:=h k hk
  show (al[k].1,Value.slice (svOf al[k].2).a (svOf al[k].2).n (svOf al[k].2).c)=al[k]
  rw [Prod.ext_iff]
  exact ⟨rfl,by rw [hv];rfl⟩
 exact (List.map_id al).symm.trans (List.map_congr_left fun x hx=>(this x hx).symm)
theorem flat_set {α:Type} (f:α→List Value) (n:Nat) (hn:∀ a,(f a).length=n) (l:List α) (i:Nat) (hi:i<l.length) (y:α) (m:Nat) (hm:m<l.length*n) :
  ((l.set i y).flatMap f)[m]? = if m / n=i then (f y)[m % n]? else (l.flatMap f)[m]? := by
 have hn0:0<n:=by
  rcases Nat.eq_zero_or_pos n with h0 | h0
  · subst h0;omega
  · exact h0
 have h1:m / n<l.length:=Nat.div_lt_of_lt_mul (by rw [Nat.mul_comm];exact hm)
 have h2:m % n<n:=Nat.mod_lt _ hn0
 have e1:=flat_get f n hn (l.set i y) (m / n) (m % n) (by simpa using h1) h2
 have e2:=flat_get f n hn l (m / n) (m % n) h1 h2
 rw [Nat.div_add_mod'] at e1 e2
 rw [e1,e2,List.getElem_set]
 by_cases e:i=m / n
 · rw [if_pos e,if_pos e.symm]
 · rw [if_neg e,if_neg (fun h=>e h.symm)]
end Go.Proofs.YtialfdomhoojiaaGreat
namespace Go.Proofs.YtialfdomhoojiaaGreat
open Go.RowKit

set_option maxRecDepth 100000 in
set_option maxHeartbeats 1000000 in
theorem Ceil_spec (x y:Int) (w:World) (h:bd60 x) (hy:0<y):Calls Tryz.prog 203 #[.int .i64 x,.int .i64 y] w fun e w'=>e=.returned (.tuple #[.int .i64 (ceilQ x y),.int .i64 0])∧w=w':=by
 have HC:=Lib.hid (fun w=>ncheck_spec x y w h (by omega))
 have hbd:=tdiv_bd (b:=y) h (by omega)
 obtain ⟨⟨b1,b2⟩,b3,b4⟩:=hbd
 have k1:IntKind.i64.wrap (x.tdiv y)=x.tdiv y:=IntWalk.i64_in _ (by omega)
 have k2:IntKind.i64.wrap (x.tmod y)=x.tmod y:=IntWalk.i64_in _ (by omega)
 have k3:¬ y=0:=by omega
 have k4:IntKind.i64.wrap (x.tdiv y+1)=x.tdiv y+1:=IntWalk.i64_in _ (by omega)
 have k5:decide (y<0)=false:=by simp;omega
 obtain ⟨r,hr⟩:∃ r,ceilQ x y=r:=⟨_,rfl⟩
 rw [hr]
 rw [ceil_td hy] at hr
 have Hr:=Lib.hid hr
 clear hr hy h b1 b2 b3 b4
 by_cases h0:x.tmod y=0
 ·
  have e0:(x.tmod y != 0)=false:=by simp [h0]
  have hf:=Hr.out
  rw [if_neg (fun e=>e.1 h0)] at hf
  have HF:=Lib.hid hf
  clear hf h0 k5
  go_enter Tryz.func203,Tryz.ntmps203
  go_wp2_with fail
  refine (HC.out _).mono ?_
  rintro e w1 ⟨rfl,rfl⟩
  go_wp2_with fail
  go_ret2
  exact ⟨by rw [← HF.out];rfl,rfl⟩
 ·
  have e0:(x.tmod y != 0)=true:=by simp [h0]
  by_cases h1:x.tmod y<0
  ·
   have hf:=Hr.out
   rw [if_neg (fun e=>e.2 h1)] at hf
   have HF:=Lib.hid hf
   have e1:(decide (x.tmod y<0) == decide (y<0))=false:=by rw [k5,decide_eq_true h1];rfl
   clear hf h0 h1 k5
   go_enter Tryz.func203,Tryz.ntmps203
   go_wp2_with fail
   refine (HC.out _).mono ?_
   rintro e w1 ⟨rfl,rfl⟩
   go_wp2_with fail
   go_ret2
   exact ⟨by rw [← HF.out];rfl,rfl⟩
  ·
   have hf:=Hr.out
   rw [if_pos ⟨h0,h1⟩] at hf
   have HF:=Lib.hid hf
   have e1:(decide (x.tmod y<0) == decide (y<0))=true:=by rw [k5,decide_eq_false h1];rfl
   clear hf h0 h1 k5
   go_enter Tryz.func203,Tryz.ntmps203
   go_wp2_with fail
   refine (HC.out _).mono ?_
   rintro e w1 ⟨rfl,rfl⟩
   go_wp2_with fail
   go_ret2
   exact ⟨by rw [← HF.out];rfl,rfl⟩

def rnC (r:Rn):List Value:=[.int .i64 r.lo,.int .i64 r.hi]
theorem rnC_len (r:Rn):(rnC r).length=2:=rfl
theorem rnC_one (r:Rn):∀ u∈rnC r,u.oneCell'=true:=by simp [rnC,Value.oneCell']
theorem elem_rn:Elem Tryz.prog 124 121 2 16:=Elem.mk_ (z:=.agg #[.int .i64 0,.int .i64 0]) (by kernel_rfl) (by kernel_rfl) rfl (by omega)
set_option maxRecDepth 100000 in
set_option maxHeartbeats 1000000 in
theorem cmpRn_spec (s t:Rn) (w:World):Calls Tryz.prog 277 #[.agg #[.int .i64 s.lo,.int .i64 s.hi],.agg #[.int .i64 t.lo,.int .i64 t.hi]] w fun e w'=>e=.returned (.int .i64 (cmpI s.lo t.lo))∧BelowD w w':=by
 go_enter Tryz.func277,Tryz.ntmps277
 go_wp2_with fail
 refine (Compare_int_spec' s.lo t.lo _).mono ?_
 rintro e w1 ⟨rfl,hb1,hd1⟩
 have HB1:=Lib.hid (bT (bA (bA (bR w) _) _) hb1)
 have HD1:=Lib.hid (dT (dA (dA (dR w) _) _) hd1)
 clear hb1 hd1
 go_wp2_with fail
 go_ret
 exact ⟨rfl,HB1.out,HD1.out⟩

structure RnBox (w:World) (B g:Nat) (l:List Rn) (v:Value):Prop where
 box:Blk w g 124 #[v]
 own:Own w B 121 2 rnC v l
theorem RnBox.keep {w w':World} {B g:Nat} {l:List Rn} {v:Value} (h:RnBox w B g l v) (hb:Below w.heap.size w w'):RnBox w' B g l v:=⟨h.box.keep hb,h.own.keep hb⟩
end Go.Proofs.YtialfdomhoojiaaGreat
namespace Go.Proofs.YtialfdomhoojiaaGreat
open Go.RowKit Go.Sort

theorem isAgg_Rn:∀ w,(isAgg 121).run Tryz.prog w=.ok true w:=fun _=>by kernel_rfl
theorem sizeOf_Rn:∀ w,(Go.sizeOf 121).run Tryz.prog w=.ok 2 w:=fun _=>by kernel_rfl
def RetSortRn (w:World) (base:Nat) (v:Value) (sl:List Rn) (e:Ending) (w':World):Prop :=
 e=.returned (.tuple #[])∧∃ sl':List Rn,sl'.Perm sl∧sl'.Pairwise (fun a b=>ltOf (fun x y:Rn=>cmpI x.lo y.lo) b a=false)∧Own w' base 121 2 rnC v sl'∧w.grownBy w' v.ownBlock
theorem SortRn_spec (base:Nat) (v:Value) (sl:List Rn) (w:World) (hown:Own w base 121 2 rnC v sl) (hn:sl.length≤4294967296) :
  Calls Tryz.prog 276 #[v,.func (.func 277) #[] #[]] w (RetSortRn w base v sl):=by
 rcases sl with _ | ⟨s0,rest⟩
 ·
  have hv:∃ p cap,v=.slice p 0 cap:=by
   rcases hown.2 with ⟨h,_⟩ | ⟨g,cap,cur,h,_⟩
   · exact ⟨_,_,h⟩
   · exact ⟨_,_,h⟩
  obtain ⟨p,cap,rfl⟩:=hv
  refine Calls.mono (AnyF.slices_SortFunc_none Tryz.sortRn p cap (.func (.func 277) #[] #[]) w) ?_
  rintro e w' ⟨rfl,rfl⟩
  exact ⟨rfl,[],List.Perm.refl _,List.Pairwise.nil,hown,World.grownBy.refl _ _⟩
 generalize hsl:s0::rest=sl at *
 have hs0:s0∈sl:=by rw [← hsl];simp
 have hpos:0<sl.length:=by rw [← hsl];simp
 obtain ⟨hlen,hown2⟩:=hown
 rcases hown2 with ⟨_,h0⟩ | ⟨g,cap,cur,rfl,hg,hh,hnc,hcm,hcs,hx⟩
 · omega
 haveI hI:Inhabited {s:Rn // s=s}:=⟨⟨s0,rfl⟩⟩
 have hdl:∃ dl:List {s:Rn // s=s},dl.map (·.1)=sl:=⟨sl.attachWith (fun s=>s=s) (fun _ _=>rfl),by simp⟩
 obtain ⟨dl,hdl⟩:=hdl
 have hdn:dl.length=sl.length:=by rw [← hdl];simp
 have hfm:dl.flatMap (fun x=>rnC x.1)=sl.flatMap rnC:=by rw [← hdl,List.flatMap_map]
 have hcur:∀ j,j<sl.length*2→cur[j]? = (sl.flatMap rnC)[j]? := fun j hj=>by
  rw [← hx,List.getElem?_take,if_pos hj];simp
 have eg:∀ args w,(callFunc 277 args).run Tryz.prog w=.ok (.enter 277 args) w:=enters_of Tryz.func277 (by kernel_rfl) rfl
 have hkk:∀ x:{s:Rn // s=s},(rnC x.1).length=2:=fun _=>rfl
 have hcmp:CmpLays Tryz.prog 277 #[] (fun x:{s:Rn // s=s}=>rnC x.1) 2 (fun x y=>(fun x y:Rn=>cmpI x.lo y.lo) x.1 y.1) g 0 dl.toArray.size w:=fun m os dk hdk x y=>by
  have hg':=sort_grown (fun x:{s:Rn // s=s}=>rnC x.1) 2 w g 0 m dk os
  exact (cmpRn_spec x.1 y.1 _).mono fun e w' h=>⟨h.1,belowD_grow h.2⟩
 have hsz:dl.toArray.size*2=sl.length*2:=by simp [hdn]
 have hH:HoldsK (fun x:{s:Rn // s=s}=>rnC x.1) 2 w g 0 dl.toArray:=fun j hj=>by
  rw [size_flatK,hsz] at hj
  refine ⟨?_,Blk.frozen (t:=121) (cs:=cur) hh _⟩
  rw [cell_of_row w g _ cur 121 (0,0) hh,Nat.zero_add,hcur j hj,flatK_list _ 2 hkk _ j (by rw [hsz];exact hj)]
  simp only [id]
  rw [hfm,List.getElem!_eq_getElem?_getD]
  have:j<(sl.flatMap rnC).length:=by rw [hlen];exact hj
  rw [List.getElem?_eq_getElem this];rfl
 have hcon:=AnyQ.slices_SortFunc Tryz.sortRn 2 isAgg_Rn sizeOf_Rn (fun x:{s:Rn // s=s}=>rnC x.1) hkk (fun x=>rnC_one x.1) (fun x y=>(fun x y:Rn=>cmpI x.lo y.lo) x.1 y.1) (swo_cmp fun x:{s:Rn // s=s}=>x.1.lo) 277 #[] g 0 cap dl.toArray w eg hcmp hH (Blk.lt hh) (by simp;omega)
 have hns:dl.toArray.size=sl.length:=by simp [hdn]
 rw [hns] at hcon
 refine Calls.mono hcon ?_
 rintro e w' ⟨rfl,d',n,os,hp,hs,rfl⟩
 obtain ⟨p1,-,p3⟩:=hp
 have hd':d'.size=sl.length:=by rw [p1,hns]
 have hperm:d'.toList.Perm dl:=by
  have e1:d'.extract 0 sl.length=d':=by rw [← hd'];simp
  have e2:dl.toArray.extract 0 sl.length=dl.toArray:=by rw [← hns];simp
  rw [e1,e2] at p3
  simpa using p3
 have hg':=sort_grown (fun x:{s:Rn // s=s}=>rnC x.1) 2 w g 0 n d' os
 refine ⟨rfl,d'.toList.map (·.1),by rw [← hdl];exact hperm.map _,?_,?_,hg'⟩
 ·
  rw [List.pairwise_map,List.pairwise_iff_getElem]
  intro i j hi hj hij
  have hj':j<d'.size:=by simpa using hj
  have:=hs i j (Nat.zero_le _) hij (by rw [← hd'];exact hj')
  rw [getElem!_pos d' j hj',getElem!_pos d' i (by omega)] at this
  exact this
 ·
  have hl':(d'.toList.map (·.1)).length=sl.length:=by simp [hd']
  unfold Own
  rw [hl']
  have hfd:(d'.toList.map (·.1)).flatMap rnC=d'.toList.flatMap (fun x=>rnC x.1):=by rw [List.flatMap_map]
  have hln:((d'.toList.map (·.1)).flatMap rnC).length=sl.length*2:=by rw [flat_length rnC 2 rnC_len,hl']
  refine ⟨hln,.inr ⟨g,cap,putCells id 0 (flatK (fun x:{s:Rn // s=s}=>rnC x.1) 2 d') cur,rfl,hg,?_,hnc,hcm,by simp [putCells,hcs],?_⟩⟩
  ·
   have hgl:g<w.heap.size:=Blk.lt hh
   rw [sort_heap,Array.getElem?_append_left (by simpa using hgl),Array.getElem?_modify,if_pos rfl,hh]
   rfl
  ·
   apply List.ext_getElem?
   intro j
   rw [List.getElem?_take]
   by_cases hj:j<sl.length*2
   ·
    rw [if_pos hj,hfd]
    have hjc:j<cur.size:=by rw [hcs];have:=Nat.mul_le_mul_right 2 hnc;omega
    have hjd:j<d'.size*2:=by rw [hd'];exact hj
    have e1:(putCells id 0 (flatK (fun x:{s:Rn // s=s}=>rnC x.1) 2 d') cur).toList[j]? = some (flatK (fun x:{s:Rn // s=s}=>rnC x.1) 2 d')[j]! := by
     simp [putCells,hjc,hjd]
    rw [e1,flatK_list _ 2 hkk _ j hjd,List.getElem!_eq_getElem?_getD]
    have:j<(d'.toList.flatMap fun x=>rnC x.1).length:=by rw [← hfd,hln];exact hj
    rw [List.getElem?_eq_getElem this];rfl
   · rw [if_neg hj,List.getElem?_eq_none (by rw [hln];omega)]
end Go.Proofs.YtialfdomhoojiaaGreat
namespace Go.Proofs.YtialfdomhoojiaaGreat
open Go.RowKit

theorem run_copy_full {P:Program} (w:World) (base:Nat) (t ty e:TypeId) (i:TypeInfo) (size:Nat) (ht:P.underlying t=some (.slice e)) (hi:P.info? e=some i) (hsize:i.size=size) (hsz:0<size)
  (v:Value) (n:Nat) (xs:List Value) (hown:w.ownsRow base e size v n xs) (src:Value) (news:List Value) (hs:Sl w src n news) (hl:news.length=n*size) (h1:∀ u∈news,u.oneCell'=true) :
  ∃ w',(Builtin.copy_ #[t,t] ty #[v,src]).run P w=.ok (goInt n) w'∧w'.ownsRow base e size v n news∧w.grownBy w' v.ownBlock:=by
 obtain ⟨A,c,rfl,-,-,hr⟩:=hs
 have hlz:∀ (x:Addr),(loadCells x 0).run P w=.ok #[] w:=fun x=>by simpa using run_loadCells_list (P:=P) w x [] (by simp)
 have zero:n=0→∀ d cap,v=.slice d 0 cap→∃ w',(Builtin.copy_ #[t,t] ty #[v,.slice A n c]).run P w=.ok (goInt n) w'∧w'.ownsRow base e size v n news∧w.grownBy w' v.ownBlock:=by
  intro hn d cap hv
  subst hn
  have hnews:news=[]:=List.eq_nil_of_length_eq_zero (by simpa using hl)
  subst hnews
  have hxs:xs=[]:=List.eq_nil_of_length_eq_zero (by have:=hown.1;simpa using this)
  subst hxs
  refine ⟨w,?_,hown,World.grownBy.refl _ _⟩
  rw [hv]
  cases d<;>cases A<;>simp [Builtin.copy_,run_underlying ht,Builtin.lenOf,Builtin.firstCells,sizeOf,typeInfo,hi,storeCells,hlz]
 rcases hown.2 with ⟨rfl,h0⟩ | ⟨g,cap,cur,rfl,hg,hh,hnc,hcm,hcs,hx⟩
 · exact zero h0 none 0 rfl
 ·
  rcases Nat.eq_zero_or_pos n with h0 | h0
  · subst h0;exact zero rfl _ _ rfl
  ·
   have hne:news≠[]:=fun e0=>by
    rw [e0] at hl
    have:=Nat.mul_pos h0 hsz
    simp at hl
    omega
   obtain ⟨b,o,rfl,-,hc⟩:=hr hne
   have hsrc:∀ j u,news[j]? = some u→w.cell? ((⟨b,o,none⟩:Addr).add j)=some u:=fun j u hu=>Row.at0 (xs:=news) (fun _=>⟨b,o,rfl,by
    obtain ⟨b',o',e',hb',-⟩:=hr hne
    injection e' with e'
    injection e' with e1 _ _
    subst e1
    exact hb',hc⟩) j u hu
   have hfit:0+news.length≤cur.size:=by rw [hl,hcs,Nat.zero_add];exact Nat.mul_le_mul_right _ hnc
   have hld:=run_loadCells_list (P:=P) w ⟨b,o,none⟩ news hsrc
   have hst:=run_storeCells_at P g 0 e news 0 cur w hh (by simpa using hfit) h1
   refine ⟨w.setRow g (cur.toList.take 0++news++cur.toList.drop (0+news.length)).toArray,?_,?_,?_⟩
   ·
    have hmul:n*i.size=news.length:=by rw [hl,hsize]
    simp [Builtin.copy_,run_underlying ht,Builtin.lenOf,Builtin.firstCells,sizeOf,typeInfo,hi,hmul,hld,hst]
   ·
    refine ⟨hl,.inr ⟨g,cap,_,rfl,hg,setRow_heap w g cur _ e _ hh,hnc,hcm,?_,?_⟩⟩
    ·
     simp
     omega
    · simp [← hl]
   · exact ⟨rfl,rfl,rfl,by simp [World.setRow],fun k hk hne=>setRow_other w g k _ (fun e=>hne (by rw [e];rfl))⟩

theorem wpList_copy_full {P:Program} (w:World) {ops:Array Oper} {rest:List Oper} {o:Oper} {a:Act} {Q:Exit→Act→World→Prop} (hgd:o.guard=none) (s x:Operand) (t:TypeId)
  (ho:o.op=.call {callee:=.builtin .copy,args:=#[s,x],argTypes:=#[t,t]})
  {α:Type} {f:α→List Value} {base:Nat} {e:TypeId} {size bytes:Nat} (hE:Elem P t e size bytes) (hf:∀ a,(f a).length=size) (hone:∀ a,∀ u∈f a,u.oneCell'=true)
  {v:Value} {n:Nat} {xs:List Value} (hs:a.eval s=v) (hown:w.ownsRow base e size v n xs)
  {src:Value} {l:List α} (hn:n=l.length) (hx:a.eval x=src) (hr:Sl w src l.length (l.flatMap f))
  (h:∀ w',Own w' base e size f v l→w.grownBy w' v.ownBlock→wpList P ops Q rest (a.put o.dst (goInt l.length)) w'):wpList P ops Q (o::rest) a w:=by
 subst hn
 obtain ⟨ht,i,z,hi,hz,hsize,hby,hzs,hsz⟩:=hE
 refine wpList_plain hgd fun K hK=>?_
 obtain ⟨w',hrun,h2,h3⟩:=run_copy_full (P:=P) w base t o.type e i size ht hi hsize hsz v l.length xs hown src (l.flatMap f) hr (flat_length f size hf l) (fun u hu=>by
  obtain ⟨a,_,hu⟩:=List.mem_flatMap.1 hu
  exact hone a u hu)
 unfold Oper.wp execOp
 simp only [ho,resolve,invoke,builtin,Sem.run_bind,Sem.run_pure,Result.andThen_ok,List.map_toArray,List.map_cons,List.map_nil,hs,hx,hrun]
 exact hK _ _ (h w' h2 h3)
end Go.Proofs.YtialfdomhoojiaaGreat
namespace Go.Proofs.YtialfdomhoojiaaGreat
open Go.RowKit

theorem gS {w0 w1:World} {g:Nat} (h:w0.grownBy w1 (some g)) (i:Nat) (u:Value):w0.grownBy (w1.setCell ⟨g,i,none⟩ u) (some g):=by
 refine gT h ⟨rfl,rfl,rfl,?_,fun j _ hne=>?_⟩
 · simp
 · exact Below.heap_setCell w1 ⟨g,i,none⟩ u j (fun e=>hne (by rw [e]))

end Go.Proofs.YtialfdomhoojiaaGreat
namespace Go.Proofs.YtialfdomhoojiaaGreat
open Go.RowKit

theorem Own.put_cell {α:Type} {w:World} {base g n c i j:Nat} {e:TypeId} {size:Nat} {f:α→List Value} (hf:∀ a,(f a).length=size) {l:List α} (h:Own w base e size f (.slice (some ⟨g,0,none⟩) n c) l) (hi:i<l.length) (hj:j<size) (y:α) (u:Value) (hy:f y=(f l[i]).set j u) :
  Own (w.setCell ⟨g,i*size+j,none⟩ u) base e size f (.slice (some ⟨g,0,none⟩) n c) (l.set i y):=by
 obtain ⟨h1,h2⟩:=h
 rcases h2 with ⟨hv,h0⟩ | ⟨g',cap,cur,hv,hg,hh,hnc,hcm,hcs,hx⟩
 · cases hv
 ·
  injection hv with e1 e2 e3
  injection e1 with e1
  injection e1 with e1 _ _
  subst e1 e3
  have hl:(l.set i y).length=l.length:=by simp
  have hs0:0<size:=by omega
  refine ⟨by rw [flat_length f size hf],.inr ⟨g,c,_,by rw [hl,e2],hg,Blk.set_ hh (i*size+j) u,by rw [hl];exact hnc,hcm,by simpa using hcs,?_⟩⟩
  apply List.ext_getElem?
  intro m
  rw [List.getElem?_take,hl]
  by_cases hm:m<l.length*size
  ·
   rw [if_pos hm,flat_set f size hf l i hi y m hm]
   have hcur:(l.flatMap f)[m]? = cur[m]? := by
    rw [← hx,List.getElem?_take,if_pos hm];simp
   have hmc:m<cur.size:=by rw [hcs];have:=Nat.mul_le_mul_right size hnc;omega
   have hdm:=Nat.div_add_mod m size
   have hml:=Nat.mod_lt m hs0
   rw [hcur]
   simp only [Array.getElem?_toList,Array.getElem?_setIfInBounds,Array.size_setIfInBounds]
   by_cases hmi:m / size=i
   ·
    rw [if_pos hmi,hy,List.getElem?_set]
    have hm2:m=i*size+m % size:=by rw [← hmi,Nat.mul_comm];omega
    by_cases hmj:j=m % size
    ·
     rw [if_pos hmj,if_pos (show j<(f l[i]).length by rw [hf];exact hj),if_pos (show i*size+j=m by omega)]
     first | rw [if_pos hmc] | rw [if_pos (show i*size+j<cur.size by omega)]
    ·
     rw [if_neg hmj,if_neg (by omega)]
     have e2:=flat_get f size hf l i (m % size) hi hml
     rw [← hm2] at e2
     rw [← e2,hcur]
   · rw [if_neg hmi,if_neg (fun e=>hmi (by rw [← e,Nat.mul_comm,Nat.mul_add_div hs0,Nat.div_eq_of_lt hj];rfl))]
  · rw [if_neg hm,List.getElem?_eq_none (by rw [flat_length f size hf,hl];omega)]
end Go.Proofs.YtialfdomhoojiaaGreat
namespace Go.Proofs.YtialfdomhoojiaaGreat
open Go.RowKit Go.Sort

def Rns (w:World) (v:Value) (l:List Rn):Prop:=Sl w v l.length (l.flatMap rnC)
theorem Rns.mono {w w':World} {v:Value} {l:List Rn} (h:Rns w v l) (hb:Below w.heap.size w w'):Rns w' v l:=Sl.mono h hb
theorem Row.rn {w:World} {A:Option Addr} {l:List Rn} (h:Row w A (l.flatMap rnC)) {k:Nat} (hk:k<l.length) :
  ∃ b o,A=some ⟨b,o,none⟩∧b<w.heap.size∧w.cell? ⟨b,o+k*2,none⟩=some (.int .i64 l[k].lo)∧w.cell? ⟨b,o+k*2+1,none⟩=some (.int .i64 l[k].hi):=by
 obtain ⟨b,o,hA,hb,hc⟩:=h.at_ (n:=2) (fun _=>rfl) hk (by omega)
 exact ⟨b,o,hA,hb,hc 0 _ rfl,hc 1 _ rfl⟩
theorem Own.row_w {α:Type} {f:α→List Value} {w:World} {base:Nat} {e:TypeId} {size:Nat} {A:Option Addr} {n c:Nat} {l:List α} (h:Own w base e size f (.slice A n c) l):Row w A (l.flatMap f):=by
 obtain ⟨A',c',he,-,-,hr⟩:=h.sl
 injection he with e1 e2 e3
 subst e1
 exact hr
theorem Own.rn_cell {w:World} {B:Nat} {A:Option Addr} {n c:Nat} {L:List Rn} (h:Own w B 121 2 rnC (.slice A n c) L) (hl:0<L.length):∃ g,A=some ⟨g,0,none⟩∧B≤g∧g<w.heap.size∧(∀ j,w.frozen? ⟨g,j,none⟩=false) ∧
  ∀ k (hk:k<L.length),w.cell? ⟨g,k*2,none⟩=some (.int .i64 L[k].lo)∧w.cell? ⟨g,k*2+1,none⟩=some (.int .i64 L[k].hi):=by
 have hr:=h.row_w
 rcases h.2 with ⟨_,h0⟩ | ⟨g,cap,cur,hv,hg,hh,-⟩
 · omega
 ·
  injection hv with e1 e2 e3
  subst e1
  refine ⟨g,rfl,hg,Blk.lt hh,fun j=>Blk.frozen hh j,fun k hk=>?_⟩
  obtain ⟨b,o,hbo,-,c0,c1⟩:=Row.rn hr hk
  injection hbo with hbo
  injection hbo with y1 y2 _
  subst y1 y2
  rw [Nat.zero_add] at c0 c1
  exact ⟨c0,c1⟩
def RetRns (w:World) (l:List Rn) (e:Ending) (w':World):Prop:=∃ A c,e=.returned (.slice A l.length c)∧Own w' w.heap.size 121 2 rnC (.slice A l.length c) l∧Below w.heap.size w w'
theorem spnStep_len (out:List Rn) (r:Rn):(spnStep out r).length≤out.length+1:=by
 unfold spnStep
 split
 · omega
 ·
  split
  · rw [List.length_set];omega
  · simp
def spnT (l:List Rn) (k:Nat):List Rn:=(l.take k).foldl spnStep []
theorem spnT_succ {l:List Rn} {k:Nat} (hk:k<l.length):spnT l (k+1)=spnStep (spnT l k) l[k]:=by
 unfold spnT
 rw [List.take_succ_eq_append_getElem hk,List.foldl_append]
 rfl
theorem spn_len (l:List Rn):∀ k,(spnT l k).length≤k
 | 0=>by simp [spnT]
 | k+1=>by
  have ih:=spn_len l k
  by_cases hk:k<l.length
  ·
   rw [spnT_succ hk]
   have:=spnStep_len (spnT l k) l[k]
   omega
  ·
   have:spnT l (k+1)=spnT l k:=by unfold spnT;rw [List.take_of_length_le (by omega),List.take_of_length_le (by omega)]
   rw [this];omega

set_option maxRecDepth 100000 in
set_option maxHeartbeats 8000000 in
theorem SpanNormal_spec (v:Value) (l:List Rn) (w:World) (h:Rns w v l) (hl:l.length≤100000):Calls Tryz.prog 254 #[v] w (RetRns w (spnS l)):=by
 have HSo:=Lib.hid (@SortRn_spec)
 have HAny:=Lib.hid (fun m (hp:m.Perm l) hs=>spn_any (l:=l) (m:=m) hp hs)
 obtain ⟨A,c,rfl,hn1,hn2,hR⟩:=h
 unfold maxLen at hn2
 have HR:=Lib.hid (show Rns w (.slice A l.length c) l from ⟨A,c,rfl,hn1,by unfold maxLen;omega,hR⟩)
 obtain ⟨R,hRr⟩:∃ R,spnS l=R:=⟨_,rfl⟩
 rw [hRr] at HAny ⊢
 clear hR hRr
 go_enter Tryz.func254,Tryz.ntmps254
 go_upto_region 2 with
  (at_make
   obtain ⟨ht_,i_,z_,hi_,hz_,hsize_,hby_,hzs_,hsz_⟩:=elem_rn
   refine wpList_make_full _ rfl (.tmp 8) (.tmp 8) _ rfl w.heap.size _ i_ z_ 2 ht_ hi_ hz_ hsize_ .i64 .i64 _ _ l.length rfl rfl rfl rfl (by rw [hby_];omega) (le_maxLen (by omega)) (Nat.le_refl _) ?_
   intro w1 ho1 hg1
   have HO1:=Lib.hid ho1
   have HB1:=Lib.hid (bG (bR w) hg1 (fun k hk=>by cases hk))
   clear ho1 hg1 ht_ hi_ hz_ hsize_ hby_ hzs_ hsz_)
 generalize (madeCells z_.cells (l.length*2)).toList=zs at *
 go_upto_region 3 with
  (refine wpList_copy_full _ rfl (.tmp 10) (.tmp 11) _ rfl elem_rn rnC_len rnC_one rfl HO1.out (l:=l) rfl rfl (HR.out.mono HB1.out) ?_
   intro w2 ho2 hg2
   have HO2:=Lib.hid ho2
   have HB2:=Lib.hid (bG HB1.out hg2 (fun k hk=>(HO1.out.lt k hk).1))
   clear ho2 hg2)
 go_wp2_with fail
 refine (HSo.out w.heap.size _ l _ HO2.out (by omega)).mono ?_
 rintro e w3 ⟨rfl,m,hp,hs,ho3,hg3⟩
 have hm:=HAny.out m hp (hs.imp (fun {a b} g=>by rw [ltOf_cmp (fun x:Rn=>x.lo),decide_eq_false_iff_not] at g;omega))
 have hml:m.length=l.length:=hp.length_eq
 have HM:=Lib.hid hm
 have HB3:=Lib.hid (bG HB2.out hg3 (fun k hk=>(HO2.out.lt k hk).1))
 have hsl:=ho3.sl
 rw [hml] at hsl
 have HSl:=Lib.hid hsl
 have hml2:m.length≤100000:=by omega
 have HLm:=Lib.hid hml
 have hz3:=HB3.out.size
 clear HAny HSo HR HO1 HB1 HO2 HB2 hp hs ho3 hg3 hm hsl hml
 go_upto_block 0 with fail
 go_wp2_with fail
 go_loopw [2,17] (fun s i wr=>∃ k:Nat,k≤l.length∧i=.int .i64 k∧(∃ A c,s=.slice A (spnT m k).length c)∧Own wr w3.heap.size 121 2 rnC s (spnT m k)∧Below w3.heap.size w3 wr) (fun _ i _=>l.length-(intOf i).toNat)
 case atStart => exact ⟨0,Nat.zero_le _,rfl,⟨none,0,rfl⟩,Own.nil _ _ _ _ _,bR w3⟩
 case round =>
  obtain ⟨k,hk,rfl,⟨A',c',rfl⟩,ho,hb⟩:=hrel
  obtain ⟨wo,rfl⟩:∃ wo:World,wo=wr:=⟨_,rfl⟩
  have HO:=Lib.hid ho;have HB:=Lib.hid hb
  have hzo:=hb.size
  clear ho hb
  by_cases hlt:k<l.length
  ·
   have hkm:k<m.length:=by have:=HLm.out;omega
   have hsu:=spnT_succ hkm
   have hql:=spn_len m k
   obtain ⟨A3,c3,he3,-,-,hR3⟩:=HSl.out.mono HB.out
   injection he3 with y1 y2 y3
   subst y1
   clear y2 y3
   obtain ⟨b,o,hbo,hlb,c0,c1⟩:=Row.rn hR3 hkm
   injection hbo with hbo
   injection hbo with y1 y2 _
   subst y1 y2
   simp only [Nat.zero_add] at c0 c1
   generalize m[k]=r at *
   obtain ⟨Q,hQ⟩:∃ Q,spnT m k=Q:=⟨_,rfl⟩
   rw [hQ] at HO hsu hql ⊢
   have HSu:=Lib.hid hsu
   have HQe:=Lib.hid hQ
   have k1:(k:Int)<l.length:=by omega
   have k2:0≤(k:Int):=by omega
   clear hsu hQ hR3
   by_cases e1:r.hi≤r.lo
   ·
    have hq:spnT m (k+1)=Q:=by rw [HSu.out];unfold spnStep;rw [if_pos e1]
    have HQ2:=Lib.hid hq
    have HBa:=Lib.hid (bA HB.out (.cells #[.int .i64 r.lo,.int .i64 r.hi] 121))
    have HOa:=Lib.hid (Own.alloc HO.out (.cells #[.int .i64 r.lo,.int .i64 r.hi] 121))
    clear hq
    go_wp2_with fail
    go_roundw
    case rel => exact ⟨k+1,by omega,by go_num,⟨A',c',by rw [HQ2.out]⟩,by rw [HQ2.out];exact HOa.out,HBa.out⟩
    case measure => simp [intOf];omega
   ·
    have hn1:IntKind.i64.wrap ((Q.length:Int)-1)=(Q.length:Int)-1:=IntWalk.i64_in _ (by omega)
    go_upto_region 10 with fail
    obtain ⟨W2,hW2⟩:∃ W:World,W=wo.alloc (.cells #[.int .i64 r.lo,.int .i64 r.hi] 121):=⟨_,rfl⟩
    have hA1:Below wo.heap.size wo W2:=by rw [hW2];exact bA (bR wo) _
    obtain ⟨g5,hg5⟩:∃ g5,wo.heap.size=g5:=⟨_,rfl⟩
    have X5:Blk W2 g5 121 #[.int .i64 r.lo,.int .i64 r.hi]:=by rw [hW2];exact Blk.made hg5.symm _ _
    have HO2:=Lib.hid (HO.out.keep hA1);have HB2:=Lib.hid (bT HB.out hA1)
    have HX5:=Lib.hid X5
    have hgl:=fun q hq=>(HO.out.lt q hq).2
    rw [← hW2]
    try rw [hg5]
    clear hW2 hA1 c0 c1 hlb HO HB
    obtain ⟨X5l,X5a,X5b,-,-⟩:=X5.facts2
    rcases Nat.eq_zero_or_pos Q.length with h0 | h0
    ·
     have hq:spnT m (k+1)=Q++[r]:=by rw [HSu.out,List.eq_nil_of_length_eq_zero h0];unfold spnStep;rw [if_neg e1,if_neg (by simp)]
     have HQ2:=Lib.hid hq
     have kq:¬ (1:Int)≤(Q.length:Int):=by omega
     clear h0 hq hn1
     refine rg_start (Since W2) (.run 13 0 0 (.done)) (by kernel_rfl) (bD (bR _)) (by kernel_rfl) (by kernel_rfl) (Nat.le_of_ble_eq_true (by kernel_rfl)) ?_
     intro opsR QR Hops HQrg hS
     iterate 3
      apply rg_p;exact Hops;exact rfl;exact hS;exact rfl
      · intro _ hqc;go_simp;try rfl
      try simp only [pu]
     iterate 8
      refine rg_yn Hops rfl hS rfl rfl rfl rfl rfl ?_
      try simp only [pu]
     iterate 2
      apply rg_p;exact Hops;exact rfl;exact hS;exact rfl
      · intro _ hqc;go_simp;try rfl
      try simp only [pu]
     refine rg_done ?_
     refine HQrg.down _ _ ?_
     have hB:Below W2.heap.size W2 W2.drew:=hS
     clear hS HQrg Hops
     obtain ⟨W3,hW3⟩:∃ W:World,W=W2.drew:=⟨_,rfl⟩
     rw [← hW3] at hB ⊢
     have HO3:=Lib.hid (HO2.out.keep hB);have HB3':=Lib.hid (bT HB2.out hB);have HX6:=Lib.hid (HX5.out.keep hB)
     clear hB hW3 X5 X5l X5a X5b HX5 HO2 HB2
     have hsh:(Q++[r]).length=Q.length+1:=by simp
     have HSh:=Lib.hid hsh
     have X5:=HX6.out
     clear hsh
     try clear X5l
     try clear X5a
     try clear X5b
     obtain ⟨X5l,X5a,X5b,-,-⟩:=X5.facts2
     go_wp2_with
      (at_builtin
       refine wpList_appl _ rfl (.tmp 24) (.tmp 26) _ rfl (base:=w3.heap.size) elem_rn rnC_len rnC_one rfl (Own.alloc HO3.out _) rfl (l2:=[r]) (Sl.lit (n:=1) (Blk.made rfl _ _) rfl (le_maxLen (by omega))) (by simp only [List.length_cons,List.length_nil];omega) (by simp only [List.length_cons,List.length_nil];omega) (by have:=HB3'.out.size;simp;omega) ?_
       intro v4 w4 ho4 hg4 hat4
       obtain ⟨A4,c4,hv4,-⟩:=ho4.sl
       rw [HSh.out] at hv4
       subst hv4
       have HO4:=Lib.hid ho4
       have HB4:=Lib.hid (bG (bA HB3'.out _) hg4 (fun g hg=>(HO3.out.lt g hg).1))
       clear ho4 hg4 hat4
       )
     go_roundw
     case rel => exact ⟨k+1,by omega,by go_num,⟨A4,c4,by rw [HQ2.out,HSh.out]⟩,by rw [HQ2.out];exact HO4.out,HB4.out⟩
     case measure => simp [intOf];omega
    ·
     obtain ⟨n,hn⟩:∃ n,Q.length=n+1:=⟨Q.length-1,by omega⟩
     have hnl:n<Q.length:=by omega
     have hq1:(Q.length:Int)-1=(n:Int):=by omega
     have hgd:Q.getD (Q.length-1) rn0=Q[n]:=by
      rw [hn,List.getD_eq_getElem?_getD,show n+1-1=n by omega,List.getElem?_eq_getElem hnl];rfl
     have hql2:Q.length-1=n:=by omega
     have hsu:=HSu.out
     unfold spnStep at hsu
     rw [if_neg e1,hgd,hql2] at hsu
     rw [hq1]
     obtain ⟨gQ,hgA,hgQ,hgQl,hfz,hce⟩:=Own.rn_cell HO2.out h0
     subst hgA
     obtain ⟨d0,d1⟩:=hce n hnl
     have hf1:=hfz (n*2+1)
     have kq:(0:Int)≤(n:Int):=by omega
     have kn:(n:Int)<(Q.length:Int):=by omega
     have hq5:¬ gQ=g5:=by
      have:=hgl gQ rfl
      omega
     obtain ⟨z,hz⟩:∃ z,Q[n]=z:=⟨_,rfl⟩
     rw [hz] at d0 d1 hsu
     by_cases e2:r.lo≤z.hi
     ·
      rw [if_pos ⟨h0,e2⟩] at hsu
      have HQ2:=Lib.hid hsu
      have HZ:=Lib.hid hz
      clear hsu hgd hql2 hn hce hfz hz h0 hn1
      refine rg_start (Since W2) (.run 13 0 0 (.done)) (by kernel_rfl) (bD (bR _)) (by kernel_rfl) (by kernel_rfl) (Nat.le_of_ble_eq_true (by kernel_rfl)) ?_
      intro opsR QR Hops HQrg hS
      iterate 3
       apply rg_p;exact Hops;exact rfl;exact hS;exact rfl
       · intro _ hqc;go_simp;try rfl
       try simp only [pu]
      iterate 8
       apply rg_g;exact Hops;exact rfl;exact hS;iterate 4 exact rfl
       · intro _ hqc;go_simp;try rfl
       try simp only [pu]
      iterate 2
       apply rg_p;exact Hops;exact rfl;exact hS;exact rfl
       · intro _ hqc;go_simp;try rfl
       try simp only [pu]
      refine rg_done ?_
      refine HQrg.down _ _ ?_
      have hB:Below W2.heap.size W2 W2.drew:=hS
      clear hS HQrg Hops
      obtain ⟨W3,hW3⟩:∃ W:World,W=W2.drew:=⟨_,rfl⟩
      rw [← hW3] at hB ⊢
      have HO3:=Lib.hid (HO2.out.keep hB);have HB3':=Lib.hid (bT HB2.out hB);have HX6:=Lib.hid (HX5.out.keep hB)
      clear hB hW3 X5 X5l X5a X5b HX5 HO2 HB2 d0 d1 hf1
      obtain ⟨g',hgA,-,hgl3,hfz3,hce3⟩:=Own.rn_cell HO3.out (by omega)
      injection hgA with hgA
      injection hgA with hgA _ _
      subst hgA
      obtain ⟨-,d1⟩:=hce3 n hnl
      rw [HZ.out] at d1
      have hf1:=hfz3 (n*2+1)
      obtain ⟨mx,hmx⟩:∃ mx:Int,mx=max z.hi r.hi:=⟨_,rfl⟩
      have hset:=Own.put_cell rnC_len HO3.out hnl (j:=1) (by omega) ⟨z.lo,mx⟩ (.int .i64 mx) (by rw [HZ.out];rfl)
      have HSet:=Lib.hid (show Own (W3.setCell ⟨gQ,n*2+1,none⟩ (.int .i64 mx)).drew w3.heap.size 121 2 rnC (.slice (some ⟨gQ,0,none⟩) Q.length c') (Q.set n ⟨z.lo,mx⟩) from hset)
      have HBs:=Lib.hid (bD (bS (p:=⟨gQ,n*2+1,none⟩) HB3'.out hgQ (.int .i64 mx)))
      have hq:=HQ2.out
      rw [← hmx] at hq
      have HQ3:=Lib.hid hq
      have Hmx:=Lib.hid hmx
      have X5:=HX6.out
      clear hset hmx hq hce3 hfz3 HQ2
      try clear X5l
      try clear X5a
      try clear X5b
      obtain ⟨X5l,X5a,X5b,-,-⟩:=X5.facts2
      have nq5:¬ some g5=some gQ:=fun e=>hq5 (Option.some.inj e).symm
      go_upto_region 11 with fail
      refine rg_start (SinceX W3 (some gQ)) (.run 6 0 0 (.take 7 191 (.take 8 447 (.call 6 511 (.run 3 9 511 (.call 12 8191 (.done))))))) (by kernel_rfl) (gD (gR _ _)) (by kernel_rfl) (by kernel_rfl) (Nat.le_of_ble_eq_true (by kernel_rfl)) ?_
      intro opsR QR Hops HQrg hS
      iterate 8
       apply rg_pX;exact Hops;exact rfl;exact hS;exact rfl
       · intro _ hqc;go_simp;try rfl
       try simp only [pu]
      refine rg_call (i:=6) (get_of Hops rfl) (fun K hK=>?_)
      have HSrg:=Lib.hid hS;clear hS
      refine rg_run (wanted_plain rfl) ?_
      go_simp
      refine hK.out _ _ HSrg.out (fun hS=>?_)
      clear hK K HSrg
      try simp only [pu]
      iterate 3
       apply rg_pX;exact Hops;exact rfl;exact hS;exact rfl
       · intro _ hqc;go_simp;try rfl
       try simp only [pu]
      refine rg_call (i:=12) (get_of Hops rfl) (fun K hK=>?_)
      have HSrg:=Lib.hid hS;clear hS
      refine rg_run (wanted_plain rfl) ?_
      go_simp
      refine hK.out _ _ (by first | exact gS HSrg.out _ _ | (unfold SinceX;have hS9:World.grownBy _ _ _:=HSrg.out;repeat (first | with_reducible assumption | with_reducible exact World.grownBy.refl _ _ | with_reducible refine gS ?_ _ _ | with_reducible refine gD ?_ | with_reducible refine gA ?_ _))) (fun hS=>?_)
      clear hK K HSrg
      try simp only [pu]
      refine rg_done ?_
      refine HQrg.down _ _ ?_
      have hB:W3.grownBy _ (some gQ):=hS
      clear hS HQrg Hops
      rw [← Hmx.out]
      go_wp2_with fail
      go_roundw
      case rel => exact ⟨k+1,by omega,by go_num,⟨some ⟨gQ,0,none⟩,c',by rw [HQ3.out,List.length_set]⟩,by rw [HQ3.out];exact HSet.out,HBs.out⟩
      case measure => simp [intOf];omega
     ·
      rw [if_neg (fun g=>e2 g.2)] at hsu
      have HQ2:=Lib.hid hsu
      clear hsu hgd hql2 hn hce hfz hz h0 hn1
      refine rg_start (Since W2) (.run 13 0 0 (.done)) (by kernel_rfl) (bD (bR _)) (by kernel_rfl) (by kernel_rfl) (Nat.le_of_ble_eq_true (by kernel_rfl)) ?_
      intro opsR QR Hops HQrg hS
      iterate 3
       apply rg_p;exact Hops;exact rfl;exact hS;exact rfl
       · intro _ hqc;go_simp;try rfl
       try simp only [pu]
      iterate 8
       apply rg_g;exact Hops;exact rfl;exact hS;iterate 4 exact rfl
       · intro _ hqc;go_simp;try rfl
       try simp only [pu]
      iterate 2
       apply rg_p;exact Hops;exact rfl;exact hS;exact rfl
       · intro _ hqc;go_simp;try rfl
       try simp only [pu]
      refine rg_done ?_
      refine HQrg.down _ _ ?_
      have hB:Below W2.heap.size W2 W2.drew:=hS
      clear hS HQrg Hops
      obtain ⟨W3,hW3⟩:∃ W:World,W=W2.drew:=⟨_,rfl⟩
      rw [← hW3] at hB ⊢
      have HO3:=Lib.hid (HO2.out.keep hB);have HB3':=Lib.hid (bT HB2.out hB);have HX6:=Lib.hid (HX5.out.keep hB)
      clear hB hW3 X5 X5l X5a X5b HX5 HO2 HB2
      have hsh:(Q++[r]).length=Q.length+1:=by simp
      have HSh:=Lib.hid hsh
      have X5:=HX6.out
      clear hsh
      try clear X5l
      try clear X5a
      try clear X5b
      obtain ⟨X5l,X5a,X5b,-,-⟩:=X5.facts2
      go_wp2_with
       (at_builtin
        refine wpList_appl _ rfl (.tmp 24) (.tmp 26) _ rfl (base:=w3.heap.size) elem_rn rnC_len rnC_one rfl (Own.alloc HO3.out _) rfl (l2:=[r]) (Sl.lit (n:=1) (Blk.made rfl _ _) rfl (le_maxLen (by omega))) (by simp only [List.length_cons,List.length_nil];omega) (by simp only [List.length_cons,List.length_nil];omega) (by have:=HB3'.out.size;simp;omega) ?_
        intro v4 w4 ho4 hg4 hat4
        obtain ⟨A4,c4,hv4,-⟩:=ho4.sl
        rw [HSh.out] at hv4
        subst hv4
        have HO4:=Lib.hid ho4
        have HB4:=Lib.hid (bG (bA HB3'.out _) hg4 (fun g hg=>(HO3.out.lt g hg).1))
        clear ho4 hg4 hat4
        )
      go_roundw
      case rel => exact ⟨k+1,by omega,by go_num,⟨A4,c4,by rw [HQ2.out,HSh.out]⟩,by rw [HQ2.out];exact HO4.out,HB4.out⟩
      case measure => simp [intOf];omega
  ·
   have hkk:spnT m k=R:=by
    have:=HLm.out
    rw [← HM.out]
    unfold spnT spnF
    rw [List.take_of_length_le (by omega)]
   have HOf:=Lib.hid (show Own wo w.heap.size 121 2 rnC (.slice A' (spnT m k).length c') (spnT m k) from HO.out.mono_base hz3)
   rw [hkk] at HOf
   generalize spnT m k=Q at *
   subst hkk
   clear HO
   go_wp2_with fail
   go_ret
   exact ⟨A',c',rfl,HOf.out,bT HB3.out HB.out⟩
end Go.Proofs.YtialfdomhoojiaaGreat
namespace Go.Proofs.YtialfdomhoojiaaGreat
open Go.RowKit

structure KeptBut (w w':World) (g:Nat) (r:Option Nat):Prop where
 size:w.heap.size≤w'.heap.size
 blk:∀ g1,g1<w.heap.size→g1≠g→r≠some g1→w'.heap[g1]? = w.heap[g1]?
theorem KeptBut.refl (w:World) (g:Nat) (r:Option Nat):KeptBut w w g r:=⟨Nat.le_refl _,fun _ _ _ _=>rfl⟩
theorem KeptBut.keep {w w':World} {g:Nat} {r:Option Nat} (h:KeptBut w w' g r) {g1:Nat} {t:TypeId} {cs:Array Value} (hb:Blk w g1 t cs) (h1:g1≠g) (h2:r≠some g1):Blk w' g1 t cs:=(h.blk g1 hb.lt h1 h2).trans hb
theorem KeptBut.own {w w':World} {g:Nat} {r:Option Nat} (h:KeptBut w w' g r) {α:Type} {B:Nat} {e:TypeId} {n:Nat} {f:α→List Value} {v:Value} {l:List α} (ho:Own w B e n f v l) (h1:v.ownBlock≠some g) (h2:∀ k,v.ownBlock=some k→r≠some k):Own w' B e n f v l:=by
 obtain ⟨h0,h3⟩:=ho
 refine ⟨h0,?_⟩
 rcases h3 with h3 | ⟨q,cap,cur,rfl,a1,a2,a3⟩
 · exact .inl h3
 · exact .inr ⟨q,cap,cur,rfl,a1,KeptBut.keep h (cs:=cur) a2 (fun e=>h1 (by rw [e];rfl)) (h2 q rfl),a3⟩
def NewAt (w:World) (v v':Value):Prop:=v'.ownBlock=v.ownBlock∨∃ k,v'.ownBlock=some k∧w.heap.size≤k
set_option maxRecDepth 100000 in
set_option maxHeartbeats 1000000 in
theorem addRn2_spec (lo hi:Int) (B g:Nat) (l:List Rn) (v:Value) (w:World) (h:RnBox w B g l v) (hB:B≤w.heap.size) (hl:l.length≤4000000000) :
  Calls Tryz.prog 253 #[.int .i64 lo,.int .i64 hi,.pointer (some ⟨g,0,none⟩)] w fun e w'=>e=.returned (.tuple #[])∧(∃ v',RnBox w' B g (l++addR lo hi) v'∧NewAt w v v')∧KeptBut w w' g v.ownBlock∧∀ w0:World,Below w0.heap.size w0 w→w0.heap.size≤B→w0.heap.size≤g→Below w0.heap.size w0 w':=by
 obtain ⟨X4,own⟩:=h
 obtain ⟨A,c,rfl,-⟩:=Own.sl own
 have HX4:=Lib.hid X4;have HO:=Lib.hid own
 have n4:=Own.ne_blk own X4 (by decide)
 clear own
 unfold addR
 by_cases hlt:lo<hi
 ·
  rw [if_pos hlt]
  obtain ⟨X4l,X4a,X4fa⟩:=X4.facts1
  go_enter Tryz.func253,Tryz.ntmps253
  have hsh:(l++[(⟨lo,hi⟩:Rn)]).length=l.length+1:=by simp
  have HSh:=Lib.hid hsh
  clear hsh
  go_wp2_with
   (at_builtin
    refine wpList_appl _ rfl (.tmp 8) (.tmp 12) _ rfl (base:=B) elem_rn rnC_len rnC_one rfl (Own.alloc HO.out _) rfl (l2:=[(⟨lo,hi⟩:Rn)]) (Sl.lit (n:=1) (Blk.made rfl _ _) rfl (le_maxLen (by omega))) (by simp only [List.length_cons,List.length_nil];omega) (by simp only [List.length_cons,List.length_nil];omega) (by simp;omega) ?_
    intro v3 w3 ho3 hg3 hat3
    obtain ⟨A3,c3,hv3,-⟩:=ho3.sl
    rw [HSh.out] at hv3
    subst hv3
    have HO3:=Lib.hid ho3
    have X43:=Blk.grown (HX4.out.alloc _) hg3 (fun e=>n4 e.symm)
    have HX43:=Lib.hid X43
    have HN3:=Lib.hid (Own.ne_blk ho3 X43 (by decide))
    have HAt:=Lib.hid (show NewAt w (.slice A l.length c) (.slice A3 (l.length+1) c3) from hat3.imp id (fun e=>⟨_,e,by simp⟩))
    have HK:=Lib.hid (show KeptBut w (w3.setCell ⟨g,0,none⟩ (.slice A3 (l.length+1) c3)) g (Value.slice A l.length c).ownBlock from ⟨by have:=hg3.size;simp at this;simp;omega,fun g1 h1 h2 h3=>by
     have h4:=hg3.block g1 (by simp;omega) (fun e=>h3 e.symm)
     rw [Below.heap_setCell w3 ⟨g,0,none⟩ _ g1 h2,h4]
     exact Below.heap_alloc w _ g1 h1⟩)
    have HB3:=Lib.hid (show ∀ w0:World,Below w0.heap.size w0 w→w0.heap.size≤B→w0.heap.size≤g→Below w0.heap.size w0 (w3.setCell ⟨g,0,none⟩ (.slice A3 (l.length+1) c3)) from fun w0 h1 h2 h3=>bS (p:=⟨g,0,none⟩) (bG (bA h1 _) hg3 (fun k hk=>Nat.le_trans h2 (HO.out.lt k hk).1)) h3 _)
    clear ho3 hg3 hat3 X4 X4l X4a X4fa
    obtain ⟨X43l,X43a,X43fa⟩:=X43.facts1
    )
  have HF:=Lib.hid (show RnBox (w3.setCell ⟨g,0,none⟩ (.slice A3 (l.length+1) c3)) B g (l++[(⟨lo,hi⟩:Rn)]) (.slice A3 (l.length+1) c3) from ⟨HX43.out.set_ 0 _,HO3.out.far HN3.out _⟩)
  exact bodyPost_end (v:=.tuple #[]) (results_none rfl _ _ _) rfl ⟨rfl,⟨_,HF.out,HAt.out⟩,HK.out,HB3.out⟩
 ·
  rw [if_neg hlt,List.append_nil]
  go_enter Tryz.func253,Tryz.ntmps253
  go_wp2_with fail
  exact bodyPost_end (v:=.tuple #[]) (results_none rfl _ _ _) rfl ⟨rfl,⟨_,⟨HX4.out,HO.out⟩,.inl rfl⟩,KeptBut.refl _ _ _,fun w0 h1 _ _=>h1⟩
end Go.Proofs.YtialfdomhoojiaaGreat
namespace Go.Proofs.YtialfdomhoojiaaGreat
open Go.RowKit
set_option linter.unusedSectionVars false

def keyLt (a b:Int):Bool:=decide (absI a<absI b) || (decide (absI a=absI b) && decide (b<a))
theorem keyLt_iff {a b:Int}:keyLt a b=true↔absI a<absI b∨(absI a=absI b∧b<a):=by unfold keyLt;simp
theorem keyLt_irr (a:Int):keyLt a a=false:=by rw [← Bool.not_eq_true,keyLt_iff];omega
theorem keyLt_tri {a b:Int} (h1:keyLt a b=false) (h2:keyLt b a=false):a=b:=by
 rw [← Bool.not_eq_true,keyLt_iff] at h1 h2
 unfold absI at *
 split at h1<;>split at h1<;>simp_all<;>omega
theorem keyLt_trans {a b c:Int} (h1:keyLt a b=true) (h2:keyLt b c=true):keyLt a c=true:=by
 rw [keyLt_iff] at *
 omega
theorem keyLt_asym {a b:Int} (h1:keyLt a b=true):keyLt b a=false:=by
 rw [← Bool.not_eq_true]
 intro h2
 rw [keyLt_iff] at h1 h2
 omega
def keyStep (k d:Int):Int:=if keyLt d k then d else k
def keyUp (c:List Int) (n:Nat):Int:=(c.take n).foldl keyStep (c.headD 0)
def keyL (c:List Int):Int:=c.foldl keyStep (c.headD 0)
theorem keyUp_succ {c:List Int} {n:Nat} (hn:n<c.length):keyUp c (n+1)=keyStep (keyUp c n) c[n]:=by
 unfold keyUp
 rw [List.take_succ_eq_append_getElem hn,List.foldl_append]
 rfl
theorem keyUp_all (c:List Int):keyUp c c.length=keyL c:=by unfold keyUp keyL;rw [List.take_length]
theorem keyF_mem:∀ (l:List Int) (k:Int),l.foldl keyStep k=k∨l.foldl keyStep k∈l
 | [],k=>.inl rfl
 | d::l,k=>by
  rw [List.foldl_cons]
  rcases keyF_mem l (keyStep k d) with h | h
  ·
   rw [h]
   unfold keyStep
   split
   · exact .inr List.mem_cons_self
   · exact .inl rfl
  · exact .inr (List.mem_cons_of_mem _ h)
theorem keyL_mem {c:List Int} (h:c≠[]):keyL c∈c:=by
 rcases keyF_mem c (c.headD 0) with e | e
 ·
  unfold keyL
  rw [e]
  cases c with
  | nil=>exact absurd rfl h
  | cons a c=>exact List.mem_cons_self
 · exact e
def insK (X:List Int) (l:List (List Int)):List (List Int):=l.takeWhile (fun Y=>!keyLt (keyL X) (keyL Y))++X::l.dropWhile (fun Y=>!keyLt (keyL X) (keyL Y))
def sortK (l:List (List Int)):List (List Int):=l.foldl (fun acc X=>insK X acc) []
def lessK (X Y:List Int):Bool:=keyLt (keyL X) (keyL Y)
theorem insK_perm (X:List Int) (l:List (List Int)):(insK X l).Perm (X::l):=by
 unfold insK
 refine List.perm_middle.trans ?_
 rw [List.takeWhile_append_dropWhile]
theorem insK_sorted {X:List Int} {l:List (List Int)} (h:l.Pairwise (fun a b=>lessK b a=false)):(insK X l).Pairwise (fun a b=>lessK b a=false):=by
 unfold insK
 have hall:(l.takeWhile (fun Y=>!keyLt (keyL X) (keyL Y))++l.dropWhile (fun Y=>!keyLt (keyL X) (keyL Y)))=l:=List.takeWhile_append_dropWhile
 have h1:∀ Y∈l.takeWhile (fun Y=>!keyLt (keyL X) (keyL Y)),keyLt (keyL X) (keyL Y)=false:=fun Y hY=>by
  have:=List.all_eq_true.1 (List.all_takeWhile (p:=fun Y=>!keyLt (keyL X) (keyL Y)) (l:=l)) Y hY
  simpa using this
 have h2:∀ Y∈l.dropWhile (fun Y=>!keyLt (keyL X) (keyL Y)),keyLt (keyL Y) (keyL X)=false:=by
  intro Y hY
  cases hd:l.dropWhile (fun Y=>!keyLt (keyL X) (keyL Y)) with
  | nil=>rw [hd] at hY;cases hY
  | cons Z m =>
   have hZ:keyLt (keyL X) (keyL Z)=true:=by
    have:=List.head_dropWhile_not (fun Y=>!keyLt (keyL X) (keyL Y)) (l:=l) (by rw [hd];simp)
    simp only [hd,List.head_cons] at this
    simpa using this
   rw [hd] at hY
   rcases List.mem_cons.1 hY with rfl | hY
   · exact keyLt_asym hZ
   ·
    have hp:(Z::m).Pairwise (fun a b=>lessK b a=false):=by
     have:=h
     rw [← hall,List.pairwise_append] at this
     rw [← hd];exact this.2.1
    have:=(List.pairwise_cons.1 hp).1 Y hY
    rw [← Bool.not_eq_true]
    intro hc
    have h3:=keyLt_trans hc hZ
    unfold lessK at this
    rw [h3] at this
    cases this
 have hp:=h
 rw [← hall,List.pairwise_append] at hp
 rw [List.pairwise_append,List.pairwise_cons]
 refine ⟨hp.1,⟨h2,hp.2.1⟩,fun a ha b hb=>?_⟩
 rcases List.mem_cons.1 hb with rfl | hb
 · exact h1 a ha
 · exact hp.2.2 a ha b hb
theorem sortK_facts (l:List (List Int)):(sortK l).Perm l∧(sortK l).Pairwise (fun a b=>lessK b a=false):=by
 have:∀ (l acc:List (List Int)),acc.Pairwise (fun a b=>lessK b a=false)→(l.foldl (fun acc X=>insK X acc) acc).Perm (acc++l)∧(l.foldl (fun acc X=>insK X acc) acc).Pairwise (fun a b=>lessK b a=false):=by
  intro l
  induction l with
  | nil=>intro acc h;exact ⟨by rw [List.append_nil];exact List.Perm.refl _,h⟩
  | cons X l ih =>
   intro acc h
   rw [List.foldl_cons]
   obtain ⟨h1,h2⟩:=ih (insK X acc) (insK_sorted h)
   refine ⟨h1.trans ?_,h2⟩
   exact ((insK_perm X acc).append_right l).trans (List.perm_middle (l₁:=acc) (l₂:=l) (a:=X)).symm
 have h:=this l [] List.Pairwise.nil
 rw [List.nil_append] at h
 exact h
section
variable {p:Pl} (h:Valid p)
include h
theorem Valid.key_uniq {X Y:List Int} (hX:X∈cyclesD p) (hY:Y∈cyclesD p) (h1:lessK X Y=false) (h2:lessK Y X=false):X=Y:=by
 obtain ⟨x,-,-,-,hx⟩:=h.cyc_form hX
 obtain ⟨y,-,-,-,hy⟩:=h.cyc_form hY
 have e:keyL X=keyL Y:=keyLt_tri h1 h2
 refine h.cyc_one hX hY (keyL_mem (fun e=>by rw [e] at hx;cases hx)) ?_
 rw [e]
 exact keyL_mem (fun e=>by rw [e] at hy;cases hy)
theorem Valid.sort_eq {l:List (List Int)} (hl:l.Perm (outX p)) (hs:l.Pairwise (fun a b=>lessK b a=false)):l=sortK (outX p):=by
 obtain ⟨h1,h2⟩:=sortK_facts (outX p)
 refine sorted_uniq (lt:=lessK) (hl.trans h1.symm) hs h2 fun a ha b hb g1 g2=>?_
 have ma:=(mem_outX.1 (hl.subset ha)).1
 have mb:=(mem_outX.1 (hl.subset hb)).1
 exact h.key_uniq ma mb g1 g2
end
end Go.Proofs.YtialfdomhoojiaaGreat
namespace Go.Proofs.YtialfdomhoojiaaGreat
open Go.RowKit

def lenV:Value→Nat
 | .slice _ n _=>n
 | _=>0
def seenL (S:Int→Bool) (l:List Int) (x:Int):Bool:=S x || decide (x∈l)
theorem seenL_nil (S:Int→Bool):seenL S []=S:=by
 funext x;simp [seenL]
theorem seenL_snoc (S:Int→Bool) (l:List Int) (y:Int):(fun i=>if i=y then true else seenL S l i)=seenL S (l++[y]):=by
 funext x
 unfold seenL
 by_cases e:x=y
 · subst e;simp
 · simp [e]
theorem orb_new {f:Int→Int} {D:List Int} (hD:∀ x∈D,f x∈D) (hi:∀ x∈D,∀ y∈D,f x=f y→x=y) {x:Int} (hx:x∈D) {j:Nat} (hj:j<orbN f D x):pw f x j∉iter f x j∧pw f x j∈orb f D x:=by
 obtain ⟨-,-,-,-,h5,-⟩:=orb_facts hD hi hx
 constructor
 ·
  intro hm
  obtain ⟨k,hk,e⟩:=mem_iter.1 hm
  unfold orb List.Nodup at h5
  rw [List.pairwise_iff_getElem] at h5
  have:=h5 k j (by rw [iter_len];omega) (by rw [iter_len];omega) hk
  rw [iter_get,iter_get] at this
  exact this e
 · exact mem_iter.2 ⟨j,hj,rfl⟩
theorem orb_end {f:Int→Int} {D:List Int} (hD:∀ x∈D,f x∈D) (hi:∀ x∈D,∀ y∈D,f x=f y→x=y) {x:Int} (hx:x∈D):pw f x (orbN f D x)∈orb f D x:=by
 obtain ⟨h1,-,h3,-,-,-⟩:=orb_facts hD hi hx
 rw [h3]
 exact mem_iter.2 ⟨0,h1,rfl⟩

def RetFol (w:World) (gm n:Nat) (S:Int→Bool) (l:List Int) (e:Ending) (w':World):Prop :=
 ∃ A c,e=.returned (.slice A l.length c)∧Own w' w.heap.size 3 1 inC (.slice A l.length c) l∧MapIB w' gm (n+l.length) (seenL S l)∧w.grownBy w' (some gm)

theorem mapIB_ne {w:World} {gm n:Nat} {f:Int→Bool} (h:MapIB w gm n f) {g:Nat} {t:TypeId} {cs:Array Value} (hg:Blk w g t cs):g≠gm:=by
 rintro rfl
 obtain ⟨D,h1,-⟩:=h
 obtain ⟨es,clock,h2,-⟩:=h1
 unfold Blk at hg
 rw [hg] at h2
 cases h2
theorem mapIB_own {w:World} {gm n:Nat} {f:Int→Bool} (h:MapIB w gm n f) {base:Nat} {e:TypeId} {size:Nat} {α:Type} {fe:α→List Value} {v:Value} {l:List α} (ho:Own w base e size fe v l):v.ownBlock≠some gm:=by
 rcases ho.2 with ⟨rfl,_⟩ | ⟨g,cap,cur,rfl,_,hh,_⟩
 · simp [Value.ownBlock]
 ·
  intro e'
  exact mapIB_ne h (cs:=cur) (g:=g) hh (by simpa [Value.ownBlock] using e')
theorem Own.shape_ {α:Type} {w:World} {base:Nat} {e:TypeId} {size:Nat} {f:α→List Value} {v:Value} {l:List α} (h:Own w base e size f v l):∃ A c,v=.slice A l.length c∧l.length≤c∧c≤maxLen:=by
 obtain ⟨A,c,rfl,h1,h2,-⟩:=Own.sl h
 exact ⟨A,c,rfl,h1,h2⟩

set_option maxRecDepth 100000 in
set_option maxHeartbeats 4000000 in
theorem follow_spec (f:Int→Int) (D:List Int) (hD:∀ x∈D,f x∈D) (hi:∀ x∈D,∀ y∈D,f x=f y→x=y) (F:Int→Int) (hF:∀ x∈D,F x=f x) (hw:∀ x∈D,wfI x) (hl:D.length≤100000) (S:Int→Bool) (d:Int) (hd:d∈D) (hS:∀ x∈orb f D d,S x=false)
  (gs gn gm gk n m:Nat) (w:World) (hn:n≤1000000) (h1:Blk w gs 139 #[.map (some gm)]) (h2:Blk w gn 96 #[.map (some gk)]) (hm:MapIB w gm n S) (hk:MapII w gk m F) (hne:gm≠gk) :
  Calls Tryz.prog 119 #[.int .i64 d,.pointer (some ⟨gs,0,none⟩),.pointer (some ⟨gn,0,none⟩)] w (RetFol w gm n S (orb f D d)):=by
 obtain ⟨o1,o2,o3,-,-,o6⟩:=orb_facts hD hi hd
 obtain ⟨q,hq⟩:∃ q,orb f D d=q:=⟨_,rfl⟩
 have hitN:iter f d (orbN f D d)=q:=hq
 have HNew:=Lib.hid (fun j (hj:j<orbN f D d)=>orb_new hD hi hd hj)
 have HMem:=Lib.hid (fun j=>pw_mem (f:=f) hD hd j)
 have hend:=orb_end hD hi hd
 rw [hq] at o6 hS hend HNew ⊢
 have HF:=Lib.hid hF;have HW:=Lib.hid hw;have HS:=Lib.hid hS;have HEnd:=Lib.hid hend;have HIt:=Lib.hid hitN;have HLq:=Lib.hid o6
 clear hF hw hS hend hitN o6 o3 hD hi hq hd
 generalize orbN f D d=N at *
 have Hm0:=Lib.hid hm;have Hk0:=Lib.hid hk;have H1:=Lib.hid h1;have H2:=Lib.hid h2
 have n1:=mapIB_ne hm h1;have n2:=mapIB_ne hm h2
 have hlt1:=h1.lt;have hlt2:=h2.lt;have hltm:=hm.lt;have hltk:=hk.lt
 clear hm hk h1 h2
 go_enter Tryz.func119,Tryz.ntmps119
 go_wp2_with fail
 go_loopw [0,4] (fun x s wr=>∃ j:Nat,j≤N∧x=.int .i64 (pw f d j)∧(∃ A c,s=.slice A j c)∧Own wr w.heap.size 3 1 inC s (iter f d j)∧MapIB wr gm (n+j) (seenL S (iter f d j))∧w.grownBy wr (some gm)) (fun _ s _=>N-lenV s)
 case atStart => exact ⟨0,Nat.zero_le _,rfl,⟨none,0,rfl⟩,Own.nil _ _ _ _ _,by rw [show iter f d 0=[] from rfl,seenL_nil];exact Hm0.out,gR w _⟩
 case round =>
  obtain ⟨j,hj,rfl,⟨A,c,rfl⟩,own,mp,hg⟩:=hrel
  have HO:=Lib.hid own;have HM:=Lib.hid mp;have HG:=Lib.hid hg
  have X1:=H1.out.grow hg (fun e=>n1 (Option.some.inj e))
  have hszr:w.heap.size≤wr.heap.size:=hg.size
  clear own mp hg
  obtain ⟨y,hy⟩:∃ y,pw f d j=y:=⟨_,rfl⟩
  have hym:=HMem.out j
  have hy2:f y=pw f d (j+1):=by rw [← hy];rfl
  have hFy:F y=pw f d (j+1):=by rw [← hy2];exact HF.out y (hy ▸ hym)
  have hwy:wfI y:=HW.out y (hy ▸ hym)
  have hnewj:=HNew.out j
  have hlk:=HM.out.look y hwy
  rw [hy] at hnewj ⊢
  have HY:=Lib.hid hy;have HFy:=Lib.hid hFy;have HWy:=Lib.hid hwy;have HN:=Lib.hid hnewj;have HYm:=Lib.hid (hy ▸ hym)
  clear hym hy2 hFy hwy hnewj
  by_cases hlt:j<N
  ·
   have hsf:seenL S (iter f d j) y=false:=by
    unfold seenL
    have h:=HN.out hlt
    rw [HS.out y h.2]
    simpa using h.1
   rw [hsf] at hlk
   obtain ⟨w3,hr3,hm3,hg3⟩:=HM.out.upd (by omega) y HWy.out true
   rw [seenL_snoc] at hm3
   have hsn:iter f d j++[y]=iter f d (j+1):=by rw [iter_snoc,HY.out]
   rw [hsn] at hm3
   have HM3:=Lib.hid hm3;have HG3:=Lib.hid (gT HG.out hg3)
   have HO3:=Lib.hid (Own.grown HO.out hg3 (fun g' hg' e=>mapIB_own HM.out HO.out (by rw [hg',e])))
   have hsz3:wr.heap.size≤w3.heap.size:=hg3.size
   have HSn:=Lib.hid hsn
   clear hsf hm3 hg3 hsn hy
   obtain ⟨X1l,X1a,-⟩:=X1.facts1
   go_upto_region 3 with fail
   clear hlk hr3 X1 X1l X1a
   go_upto_region 4 with
    (at_builtin
     refine wpList_appl _ rfl (.tmp 11) (.tmp 13) _ rfl (base:=w.heap.size) elem_in inC_len inC_one rfl (Own.alloc HO3.out _) rfl (l2:=[y]) (Sl.lit (n:=1) (Blk.made rfl _ _) rfl (le_maxLen (by omega))) (by simp only [iter_len,List.length_cons,List.length_nil];omega) (by simp only [iter_len,List.length_cons,List.length_nil];omega) (by simp;omega) ?_
     intro v1 w1 ho1 hg1 hat1
     rw [HSn.out] at ho1
     obtain ⟨A1,c1,hv1,-⟩:=Own.shape_ ho1
     rw [iter_len] at hv1
     subst hv1
     have HO1:=Lib.hid ho1
     have hown:=HO3.out.lt
     have hG1:w.grownBy w1 (some gm):=⟨by rw [hg1.os];exact HG3.out.os,by rw [hg1.tape];exact HG3.out.tape,by rw [hg1.output];exact HG3.out.output,Nat.le_trans HG3.out.size (Nat.le_trans (by simp) hg1.size),fun i hi hne=>by
      rw [hg1.block i (by simp;have:=HG3.out.size;omega) (fun e=>by have:=(hown i e.symm).1;omega),← HG3.out.block i hi hne]
      exact (bA (bR w3) (.cells #[.int .i64 y] 3)).block i (by have:=HG3.out.size;omega)⟩
     have HG1:=Lib.hid hG1
     have HM1:=Lib.hid ((HM3.out.keep (bA (bR w3) (.cells #[.int .i64 y] 3))).kept hg1 (fun e=>mapIB_own HM3.out HO3.out e.symm))
     clear ho1 hg1 hat1 hG1 hown
     )
   have X2:=H2.out.grow HG1.out (fun e=>n2 (Option.some.inj e))
   have hlk2:=(Hk0.out.kept HG1.out (fun e=>hne (Option.some.inj e).symm)).look y HWy.out
   rw [HFy.out] at hlk2
   obtain ⟨X2l,X2a,-⟩:=X2.facts1
   go_wp2_with fail
   go_roundw
   case rel => exact ⟨j+1,by omega,rfl,⟨A1,c1,rfl⟩,HO1.out,HM1.out,HG1.out⟩
   case measure => simp only [lenV];omega
  ·
   have hjN:j=N:=by omega
   subst hjN
   have hst:seenL S (iter f d j) y=true:=by
    unfold seenL
    have h:=HEnd.out
    rw [HY.out,← HIt.out] at h
    simp [h]
   rw [hst] at hlk
   clear hst
   try clear X1l
   try clear X1a
   obtain ⟨X1l,X1a,-⟩:=X1.facts1
   go_wp2_with fail
   go_ret
   rw [HIt.out] at HO HM
   have hL:=HLq.out
   have ho:=HO.out
   have hm:=HM.out
   subst hL
   exact ⟨A,c,rfl,ho,hm,HG.out⟩
end Go.Proofs.YtialfdomhoojiaaGreat
namespace Go.Proofs.YtialfdomhoojiaaGreat
open Go.RowKit

theorem flat_in (l:List Int) (j:Nat):(l.flatMap inC)[j]? = (l[j]?).map (.int .i64 ·):=by
 induction l generalizing j with
 | nil=>simp
 | cons a l ih =>
  rw [List.flatMap_cons]
  cases j with
  | zero=>rfl
  | succ j =>
   show (.int .i64 a::l.flatMap inC)[j+1]? = _
   rw [List.getElem?_cons_succ,ih,List.getElem?_cons_succ]
theorem flat_in_len (l:List Int):(l.flatMap inC).length=l.length:=by
 have:=flat_length inC 1 inC_len l
 omega
def RetSortIn (w:World) (base:Nat) (v:Value) (sl:List Int) (e:Ending) (w':World):Prop :=
 e=.returned (.tuple #[])∧Own w' base 3 1 inC v sl∧w.grownBy w' v.ownBlock

end Go.Proofs.YtialfdomhoojiaaGreat
