import Derived.Test.YtialfdomhoojiaaGreatGB
import Derived.Test.YtialfdomhoojiaaGreatJ03
import Derived.Test.YtialfdomhoojiaaGreatJ01
import Derived.Test.YtialfdomhoojiaaGreatJ14
import Derived.Test.YtialfdomhoojiaaGreatJ05
import Derived.Test.YtialfdomhoojiaaGreatJ06
import Derived.Test.YtialfdomhoojiaaGreatLaySortRn
import Derived.Laws.CopyRow
import Derived.Laws.IdiomCopy
import Derived.OwnWalk
import Derived.Deep.CutBlock
import Derived.Test.YtialfdomhoojiaaGreatJ13
set_option linter.unusedSimpArgs false
set_option linter.unusedVariables false
namespace Go.Proofs.YtialfdomhoojiaaGreat
open Go.RowKit
theorem kQ {B:Nat} {W w:World} (hB:B<=W.heap.size) (h:Below B W w) (o:Obj):Below B W (w.alloc o):=h.alloc (Nat.le_trans hB h.size) o
theorem qJ {B b i:Nat} {W w:World} (h:Below B W w) (hb:B<=b) (u:Value):Below B W (w.setCell ⟨b,i,none⟩ u):=h.setCell (p:=⟨b,i,none⟩) hb u
def lI (x:Ar×SV):List Value:=[.int .i64 x.1.id,.int .i64 x.1.fr,.int .i64 x.1.dst,.slice x.2.a x.2.n x.2.c,.int .i64 x.1.left,.int .i64 x.1.right]
theorem Ew (x:Ar×SV):(lI x).length=6:=rfl
theorem UH (x:Ar×SV):∀ u∈lI x,u.oneCell'=true:=by simp [lI,Value.oneCell']
def Jm (x:Ar×SV):Ar×Value:=(x.1,.slice x.2.a x.2.n x.2.c)
def P7:Value->SV
 | .slice a n c=>⟨a,n,c⟩
 | _=>⟨none,0,0⟩
theorem UJ (l:List (Ar×SV)):(l.map Jm).flatMap Ih=l.flatMap lI:=by rw [List.flatMap_map];rfl
theorem Fj.sv {w:World} {al:List (Ar×Value)} (h:Fj w al):∃ bl:List (Ar×SV),al=bl.map Jm:=by
 refine ⟨al.map fun x=>(x.1,P7 x.2),?_⟩;rw [List.map_map];have:∀ x∈al,(Jm ∘ fun x:Ar×Value=>(x.1,P7 x.2)) x=x:=fun x hx=>by
  obtain ⟨k,hk,rfl⟩:=List.mem_iff_getElem.1 hx;obtain ⟨A,c,hv,-⟩:=h k hk
  show (al[k].1,Value.slice (P7 al[k].2).a (P7 al[k].2).n (P7 al[k].2).c)=al[k]
  rw [Prod.ext_iff];exact ⟨rfl,by rw [hv];rfl⟩
 exact (List.map_id al).symm.trans (List.map_congr_left fun x hx=>(this x hx).symm)
theorem afN {α:Type} (f:α->List Value) (n:Nat) (hn:∀ a,(f a).length=n) (l:List α) (i:Nat) (hi:i<l.length) (y:α) (m:Nat) (hm:m<l.length*n) :
  ((l.set i y).flatMap f)[m]? = if m / n=i then (f y)[m % n]? else (l.flatMap f)[m]? := by
 have hn0:0<n:=by
  rcases Nat.eq_zero_or_pos n with h0 | h0
  · subst h0;omega
  · exact h0
 have h1:m / n<l.length:=Nat.div_lt_of_lt_mul (by rw [Nat.mul_comm];exact hm);have h2:m % n<n:=Nat.mod_lt _ hn0;have e1:=flat_get f n hn (l.set i y) (m / n) (m % n) (by simpa using h1) h2;have e2:=flat_get f n hn l (m / n) (m % n) h1 h2;rw [Nat.div_add_mod'] at e1 e2;rw [e1,e2,List.getElem_set];by_cases e:i=m / n
 · rw [if_pos e,if_pos e.symm]
 · rw [if_neg e,if_neg (fun h=>e h.symm)]
theorem Own.anW {w:World} {base g n c i:Nat} {e:TypeId} {l:List (Ar×SV)} (h:Own w base e 6 lI (.slice (some ⟨g,0,none⟩) n c) l) (hi:i<l.length) (y:Ar×SV) :
  Own ((((((w.setCell ⟨g,i*6,none⟩ (.int .i64 y.1.id)).setCell ⟨g,i*6+1,none⟩ (.int .i64 y.1.fr)).setCell ⟨g,i*6+2,none⟩ (.int .i64 y.1.dst)).setCell ⟨g,i*6+3,none⟩ (.slice y.2.a y.2.n y.2.c)).setCell ⟨g,i*6+4,none⟩ (.int .i64 y.1.left)).setCell ⟨g,i*6+5,none⟩ (.int .i64 y.1.right)) base e 6 lI (.slice (some ⟨g,0,none⟩) n c) (l.set i y):=by
 obtain ⟨h1,h2⟩:=h;rcases h2 with ⟨hv,h0⟩ | ⟨g',cap,cur,hv,hg,hh,hnc,hcm,hcs,hx⟩
 · cases hv
 ·injection hv with e1 e2 e3;injection e1 with e1;injection e1 with e1 _ _;subst e1 e3;have hl:(l.set i y).length=l.length:=by simp
  refine ⟨by rw [flat_length lI 6 Ew],.inr ⟨g,c,_,by rw [hl,e2],hg,aj.fC (aj.fC (aj.fC (aj.fC (aj.fC (aj.fC hh (i*6) _) (i*6+1) _) (i*6+2) _) (i*6+3) _) (i*6+4) _) (i*6+5) _,by rw [hl];exact hnc,hcm,by simpa using hcs,?_⟩⟩;apply List.ext_getElem?;intro m;rw [List.getElem?_take,hl];by_cases hm:m<l.length*6
  ·rw [if_pos hm,afN lI 6 Ew l i hi y m hm];have hcur:(l.flatMap lI)[m]? = cur[m]? := by
    rw [<- hx,List.getElem?_take,if_pos hm];simp
   have hmc:m<cur.size:=by rw [hcs];have:=Nat.mul_le_mul_right 6 hnc;omega
   rw [hcur];simp only [Array.getElem?_toList,Array.getElem?_setIfInBounds,Array.size_setIfInBounds];by_cases yu:m / 6=i
   ·rw [if_pos yu];obtain ⟨r,hr,rfl⟩:∃ r,r<6/\m=i*6+r:=⟨m % 6,by omega,by omega⟩;rw [show (i*6+r) % 6=r by omega]
    match r,hr with
    | 0,_=>simp [lI];omega
    | 1,_=>simp [lI];omega
    | 2,_=>simp [lI];omega
    | 3,_=>simp [lI];omega
    | 4,_=>simp [lI];omega
    | 5,_=>simp [lI];omega
   · rw [if_neg yu,if_neg (by omega),if_neg (by omega),if_neg (by omega),if_neg (by omega),if_neg (by omega),if_neg (by omega)]
  · rw [if_neg hm,List.getElem?_eq_none (by rw [flat_length lI 6 Ew,hl];omega)]
set_option maxRecDepth 100000 in
set_option maxHeartbeats 1000000 in
theorem anX (x y:Int) (w:World) (h:uG x) (hy:0<y):Calls Tryz.prog 203 #[.int .i64 x,.int .i64 y] w fun e w'=>e=.returned (.tuple #[.int .i64 (rJ x y),.int .i64 0])/\w=w':=by
 have HC:=Lib.hid (fun w=>amb x y w h (by omega));have hbd:=aer (b:=y) h (by omega);obtain ⟨⟨b1,b2⟩,b3,b4⟩:=hbd;have k1:IntKind.i64.wrap (x.tdiv y)=x.tdiv y:=IntWalk.i64_in _ (by omega);have k2:IntKind.i64.wrap (x.tmod y)=x.tmod y:=IntWalk.i64_in _ (by omega);have k3:¬ y=0:=by omega
 have k4:IntKind.i64.wrap (x.tdiv y+1)=x.tdiv y+1:=IntWalk.i64_in _ (by omega);have k5:decide (y<0)=false:=by simp;omega
 obtain ⟨r,hr⟩:∃ r,rJ x y=r:=⟨_,rfl⟩;rw [hr];rw [amf hy] at hr;have Hr:=Lib.hid hr;clear hr hy h b1 b2 b3 b4;by_cases h0:x.tmod y=0
 ·have e0:(x.tmod y != 0)=false:=by simp [h0]
  have hf:=Hr.out;rw [if_neg (fun e=>e.1 h0)] at hf;have HF:=Lib.hid hf;clear hf h0 k5;go_enter Tryz.func203,Tryz.ntmps203;go_wp2_with fail;refine (HC.out _).mono ?_;rintro e w1 ⟨rfl,rfl⟩;go_wp2_with fail;go_ret2;exact ⟨by rw [<- HF.out];rfl,rfl⟩
 ·have e0:(x.tmod y != 0)=true:=by simp [h0]
  by_cases h1:x.tmod y<0
  ·have hf:=Hr.out;rw [if_neg (fun e=>e.2 h1)] at hf;have HF:=Lib.hid hf;have e1:(decide (x.tmod y<0) == decide (y<0))=false:=by rw [k5,decide_eq_true h1];rfl
   clear hf h0 h1 k5;go_enter Tryz.func203,Tryz.ntmps203;go_wp2_with fail;refine (HC.out _).mono ?_;rintro e w1 ⟨rfl,rfl⟩;go_wp2_with fail;go_ret2;exact ⟨by rw [<- HF.out];rfl,rfl⟩
  ·have hf:=Hr.out;rw [if_pos ⟨h0,h1⟩] at hf;have HF:=Lib.hid hf;have e1:(decide (x.tmod y<0) == decide (y<0))=true:=by rw [k5,decide_eq_false h1];rfl
   clear hf h0 h1 k5;go_enter Tryz.func203,Tryz.ntmps203;go_wp2_with fail;refine (HC.out _).mono ?_;rintro e w1 ⟨rfl,rfl⟩;go_wp2_with fail;go_ret2;exact ⟨by rw [<- HF.out];rfl,rfl⟩
def iO (r:Rn):List Value:=[.int .i64 r.lo,.int .i64 r.hi]
theorem Dp (r:Rn):(iO r).length=2:=rfl
theorem Ey (r:Rn):∀ u∈iO r,u.oneCell'=true:=by simp [iO,Value.oneCell']
theorem Ez:Elem Tryz.prog 124 121 2 16:=Elem.uq (z:=.agg #[.int .i64 0,.int .i64 0]) (by kernel_rfl) (by kernel_rfl) rfl (by omega)
set_option maxRecDepth 100000 in
set_option maxHeartbeats 1000000 in
theorem anY (s t:Rn) (w:World):Calls Tryz.prog 277 #[.agg #[.int .i64 s.lo,.int .i64 s.hi],.agg #[.int .i64 t.lo,.int .i64 t.hi]] w fun e w'=>e=.returned (.int .i64 (lQ s.lo t.lo))/\oG w w':=by
 go_enter Tryz.func277,Tryz.ntmps277;go_wp2_with fail;refine (OL s.lo t.lo _).mono ?_;rintro e w1 ⟨rfl,hb1,hd1⟩;have HB1:=Lib.hid (bT (bA (bA (bR w) _) _) hb1);have HD1:=Lib.hid (dT (dA (dA (dR w) _) _) hd1);clear hb1 hd1;go_wp2_with fail;go_ret;exact ⟨rfl,HB1.out,HD1.out⟩
structure Dq (w:World) (B g:Nat) (l:List Rn) (v:Value):Prop where
 box:aj w g 124 #[v]
 own:Own w B 121 2 iO v l
theorem Dq.keep {w w':World} {B g:Nat} {l:List Rn} {v:Value} (h:Dq w B g l v) (hb:Below w.heap.size w w'):Dq w' B g l v:=⟨h.box.keep hb,h.own.keep hb⟩
open Go.RowKit Go.Sort
theorem anZ:∀ w,(isAgg 121).run Tryz.prog w=.ok true w:=fun _=>by kernel_rfl
theorem an0:∀ w,(Go.sizeOf 121).run Tryz.prog w=.ok 2 w:=fun _=>by kernel_rfl
def an1 (w:World) (base:Nat) (v:Value) (sl:List Rn) (e:Ending) (w':World):Prop :=
 e=.returned (.tuple #[])/\∃ sl':List Rn,sl'.Perm sl/\sl'.Pairwise (fun a b=>ltOf (fun x y:Rn=>lQ x.lo y.lo) b a=false)/\Own w' base 121 2 iO v sl'/\w.grownBy w' v.ownBlock
theorem an2 (base:Nat) (v:Value) (sl:List Rn) (w:World) (hown:Own w base 121 2 iO v sl) (hn:sl.length<=4294967296) :
  Calls Tryz.prog 276 #[v,.func (.func 277) #[] #[]] w (an1 w base v sl):=by
 rcases sl with _ | ⟨s0,rest⟩
 ·have hv:∃ p cap,v=.slice p 0 cap:=by
   rcases hown.2 with ⟨h,_⟩ | ⟨g,cap,cur,h,_⟩
   · exact ⟨_,_,h⟩
   · exact ⟨_,_,h⟩
  obtain ⟨p,cap,rfl⟩:=hv;refine Calls.mono (AnyF.slices_SortFunc_none Tryz.sortRn p cap (.func (.func 277) #[] #[]) w) ?_;rintro e w' ⟨rfl,rfl⟩;exact ⟨rfl,[],List.Perm.refl _,List.Pairwise.nil,hown,World.grownBy.refl _ _⟩
 generalize hsl:s0::rest=sl at *;have hs0:s0∈sl:=by rw [<- hsl];simp
 have hpos:0<sl.length:=by rw [<- hsl];simp
 obtain ⟨hlen,hown2⟩:=hown;rcases hown2 with ⟨_,h0⟩ | ⟨g,cap,cur,rfl,hg,hh,hnc,hcm,hcs,hx⟩
 · omega
 haveI hI:Inhabited {s:Rn // s=s}:=⟨⟨s0,rfl⟩⟩
 have hdl:∃ dl:List {s:Rn // s=s},dl.map (·.1)=sl:=⟨sl.attachWith (fun s=>s=s) (fun _ _=>rfl),by simp⟩;obtain ⟨dl,hdl⟩:=hdl;have hdn:dl.length=sl.length:=by rw [<- hdl];simp
 have hfm:dl.flatMap (fun x=>iO x.1)=sl.flatMap iO:=by rw [<- hdl,List.flatMap_map]
 have hcur:∀ j,j<sl.length*2->cur[j]? = (sl.flatMap iO)[j]? := fun j hj=>by
  rw [<- hx,List.getElem?_take,if_pos hj];simp
 have eg:∀ args w,(callFunc 277 args).run Tryz.prog w=.ok (.enter 277 args) w:=enters_of Tryz.func277 (by kernel_rfl) rfl;have hkk:∀ x:{s:Rn // s=s},(iO x.1).length=2:=fun _=>rfl;have hcmp:CmpLays Tryz.prog 277 #[] (fun x:{s:Rn // s=s}=>iO x.1) 2 (fun x y=>(fun x y:Rn=>lQ x.lo y.lo) x.1 y.1) g 0 dl.toArray.size w:=fun m os dk hdk x y=>by
  have hg':=F7 (fun x:{s:Rn // s=s}=>iO x.1) 2 w g 0 m dk os;exact (anY x.1 y.1 _).mono fun e w' h=>⟨h.1,OU h.2⟩
 have hsz:dl.toArray.size*2=sl.length*2:=by simp [hdn]
 have hH:HoldsK (fun x:{s:Rn // s=s}=>iO x.1) 2 w g 0 dl.toArray:=fun j hj=>by
  rw [size_flatK,hsz] at hj;refine ⟨?_,aj.frozen (t:=121) (cs:=cur) hh _⟩;rw [cell_of_row w g _ cur 121 (0,0) hh,Nat.zero_add,hcur j hj,F8 _ 2 hkk _ j (by rw [hsz];exact hj)];simp only [id];rw [hfm,List.getElem!_eq_getElem?_getD]
  have:j<(sl.flatMap iO).length:=by rw [hlen];exact hj
  rw [List.getElem?_eq_getElem this];rfl
 have hcon:=AnyQ.slices_SortFunc Tryz.sortRn 2 anZ an0 (fun x:{s:Rn // s=s}=>iO x.1) hkk (fun x=>Ey x.1) (fun x y=>(fun x y:Rn=>lQ x.lo y.lo) x.1 y.1) (Y8 fun x:{s:Rn // s=s}=>x.1.lo) 277 #[] g 0 cap dl.toArray w eg hcmp hH (aj.lt hh) (by simp;omega);have hns:dl.toArray.size=sl.length:=by simp [hdn]
 rw [hns] at hcon;refine Calls.mono hcon ?_;rintro e w' ⟨rfl,d',n,os,hp,hs,rfl⟩;obtain ⟨p1,-,p3⟩:=hp;have hd':d'.size=sl.length:=by rw [p1,hns]
 have hperm:d'.toList.Perm dl:=by
  have e1:d'.extract 0 sl.length=d':=by rw [<- hd'];simp
  have e2:dl.toArray.extract 0 sl.length=dl.toArray:=by rw [<- hns];simp
  rw [e1,e2] at p3;simpa using p3
 have hg':=F7 (fun x:{s:Rn // s=s}=>iO x.1) 2 w g 0 n d' os;refine ⟨rfl,d'.toList.map (·.1),by rw [<- hdl];exact hperm.map _,?_,?_,hg'⟩
 ·rw [List.pairwise_map,List.pairwise_iff_getElem];intro i j hi hj hij;have hj':j<d'.size:=by simpa using hj
  have:=hs i j (Nat.zero_le _) hij (by rw [<- hd'];exact hj')
  rw [getElem!_pos d' j hj',getElem!_pos d' i (by omega)] at this;exact this
 ·have hl':(d'.toList.map (·.1)).length=sl.length:=by simp [hd']
  unfold Own;rw [hl'];have hfd:(d'.toList.map (·.1)).flatMap iO=d'.toList.flatMap (fun x=>iO x.1):=by rw [List.flatMap_map]
  have hln:((d'.toList.map (·.1)).flatMap iO).length=sl.length*2:=by rw [flat_length iO 2 Dp,hl']
  refine ⟨hln,.inr ⟨g,cap,putCells id 0 (flatK (fun x:{s:Rn // s=s}=>iO x.1) 2 d') cur,rfl,hg,?_,hnc,hcm,by simp [putCells,hcs],?_⟩⟩
  ·have hgl:g<w.heap.size:=aj.lt hh;rw [KZ,Array.getElem?_append_left (by simpa using hgl),Array.getElem?_modify,if_pos rfl,hh];rfl
  ·apply List.ext_getElem?;intro j;rw [List.getElem?_take];by_cases hj:j<sl.length*2
   ·rw [if_pos hj,hfd];have hjc:j<cur.size:=by rw [hcs];have:=Nat.mul_le_mul_right 2 hnc;omega
    have hjd:j<d'.size*2:=by rw [hd'];exact hj
    have e1:(putCells id 0 (flatK (fun x:{s:Rn // s=s}=>iO x.1) 2 d') cur).toList[j]? = some (flatK (fun x:{s:Rn // s=s}=>iO x.1) 2 d')[j]! := by
     simp [putCells,hjc,hjd]
    rw [e1,F8 _ 2 hkk _ j hjd,List.getElem!_eq_getElem?_getD]
    have:j<(d'.toList.flatMap fun x=>iO x.1).length:=by rw [<- hfd,hln];exact hj
    rw [List.getElem?_eq_getElem this];rfl
   · rw [if_neg hj,List.getElem?_eq_none (by rw [hln];omega)]
theorem an3 {P:Program} (w:World) (base:Nat) (t ty e:TypeId) (i:TypeInfo) (size:Nat) (ht:P.underlying t=some (.slice e)) (hi:P.info? e=some i) (hsize:i.size=size) (hsz:0<size)
  (v:Value) (n:Nat) (xs:List Value) (hown:w.ownsRow base e size v n xs) (src:Value) (news:List Value) (hs:Sl w src n news) (hl:news.length=n*size) (h1:∀ u∈news,u.oneCell'=true) :
  ∃ w',(Builtin.copy_ #[t,t] ty #[v,src]).run P w=.ok (goInt n) w'/\w'.ownsRow base e size v n news/\w.grownBy w' v.ownBlock:=by
 obtain ⟨A,c,rfl,-,-,hr⟩:=hs;have hlz:∀ (x:Addr),(loadCells x 0).run P w=.ok #[] w:=fun x=>by simpa using run_loadCells_list (P:=P) w x [] (by simp)
 have zero:n=0->∀ d cap,v=.slice d 0 cap->∃ w',(Builtin.copy_ #[t,t] ty #[v,.slice A n c]).run P w=.ok (goInt n) w'/\w'.ownsRow base e size v n news/\w.grownBy w' v.ownBlock:=by
  intro hn d cap hv;subst hn;have hnews:news=[]:=List.eq_nil_of_length_eq_zero (by simpa using hl);subst hnews;have hxs:xs=[]:=List.eq_nil_of_length_eq_zero (by have:=hown.1;simpa using this);subst hxs;refine ⟨w,?_,hown,World.grownBy.refl _ _⟩;rw [hv]
  cases d<;>cases A<;>simp [Builtin.copy_,run_underlying ht,Builtin.lenOf,Builtin.firstCells,sizeOf,typeInfo,hi,storeCells,hlz]
 rcases hown.2 with ⟨rfl,h0⟩ | ⟨g,cap,cur,rfl,hg,hh,hnc,hcm,hcs,hx⟩
 · exact zero h0 none 0 rfl
 ·rcases Nat.eq_zero_or_pos n with h0 | h0
  · subst h0;exact zero rfl _ _ rfl
  ·have hne:news≠[]:=fun e0=>by
    rw [e0] at hl;have:=Nat.mul_pos h0 hsz
    simp at hl;omega
   obtain ⟨b,o,rfl,-,hc⟩:=hr hne;have hsrc:∀ j u,news[j]? = some u->w.cell? ((⟨b,o,none⟩:Addr).add j)=some u:=fun j u hu=>Row.at0 (xs:=news) (fun _=>⟨b,o,rfl,by
    obtain ⟨b',o',e',hb',-⟩:=hr hne;injection e' with e';injection e' with e1 _ _;subst e1;exact hb',hc⟩) j u hu
   have hfit:0+news.length<=cur.size:=by rw [hl,hcs,Nat.zero_add];exact Nat.mul_le_mul_right _ hnc
   have hld:=run_loadCells_list (P:=P) w ⟨b,o,none⟩ news hsrc;have hst:=run_storeCells_at P g 0 e news 0 cur w hh (by simpa using hfit) h1;refine ⟨w.setRow g (cur.toList.take 0++news++cur.toList.drop (0+news.length)).toArray,?_,?_,?_⟩
   ·have hmul:n*i.size=news.length:=by rw [hl,hsize]
    simp [Builtin.copy_,run_underlying ht,Builtin.lenOf,Builtin.firstCells,sizeOf,typeInfo,hi,hmul,hld,hst]
   ·refine ⟨hl,.inr ⟨g,cap,_,rfl,hg,setRow_heap w g cur _ e _ hh,hnc,hcm,?_,?_⟩⟩
    ·simp;omega
    · simp [<- hl]
   · exact ⟨rfl,rfl,rfl,by simp [World.setRow],fun k hk hne=>setRow_other w g k _ (fun e=>hne (by rw [e];rfl))⟩
theorem an4 {P:Program} (w:World) {ops:Array Oper} {rest:List Oper} {o:Oper} {a:Act} {Q:Exit->Act->World->Prop} (hgd:o.guard=none) (s x:Operand) (t:TypeId)
  (ho:o.op=.call {callee:=.builtin .copy,args:=#[s,x],argTypes:=#[t,t]})
  {α:Type} {f:α->List Value} {base:Nat} {e:TypeId} {size bytes:Nat} (hE:Elem P t e size bytes) (hf:∀ a,(f a).length=size) (hone:∀ a,∀ u∈f a,u.oneCell'=true)
  {v:Value} {n:Nat} {xs:List Value} (hs:a.eval s=v) (hown:w.ownsRow base e size v n xs)
  {src:Value} {l:List α} (hn:n=l.length) (hx:a.eval x=src) (hr:Sl w src l.length (l.flatMap f))
  (h:∀ w',Own w' base e size f v l->w.grownBy w' v.ownBlock->wpList P ops Q rest (a.put o.dst (goInt l.length)) w'):wpList P ops Q (o::rest) a w:=by
 subst hn;obtain ⟨ht,i,z,hi,hz,hsize,hby,hzs,hsz⟩:=hE;refine wpList_plain hgd fun K hK=>?_;obtain ⟨w',hrun,h2,h3⟩:=an3 (P:=P) w base t o.type e i size ht hi hsize hsz v l.length xs hown src (l.flatMap f) hr (flat_length f size hf l) (fun u hu=>by
  obtain ⟨a,_,hu⟩:=List.mem_flatMap.1 hu;exact hone a u hu)
 unfold Oper.wp execOp;simp only [ho,resolve,invoke,builtin,Sem.run_bind,Sem.run_pure,Result.andThen_ok,List.map_toArray,List.map_cons,List.map_nil,hs,hx,hrun];exact hK _ _ (h w' h2 h3)
theorem gS {w0 w1:World} {g:Nat} (h:w0.grownBy w1 (some g)) (i:Nat) (u:Value):w0.grownBy (w1.setCell ⟨g,i,none⟩ u) (some g):=by
 refine gT h ⟨rfl,rfl,rfl,?_,fun j _ hne=>?_⟩
 · simp
 · exact Below.heap_setCell w1 ⟨g,i,none⟩ u j (fun e=>hne (by rw [e]))
theorem Own.Mc {α:Type} {w:World} {base g n c i j:Nat} {e:TypeId} {size:Nat} {f:α->List Value} (hf:∀ a,(f a).length=size) {l:List α} (h:Own w base e size f (.slice (some ⟨g,0,none⟩) n c) l) (hi:i<l.length) (hj:j<size) (y:α) (u:Value) (hy:f y=(f l[i]).set j u) :
  Own (w.setCell ⟨g,i*size+j,none⟩ u) base e size f (.slice (some ⟨g,0,none⟩) n c) (l.set i y):=by
 obtain ⟨h1,h2⟩:=h;rcases h2 with ⟨hv,h0⟩ | ⟨g',cap,cur,hv,hg,hh,hnc,hcm,hcs,hx⟩
 · cases hv
 ·injection hv with e1 e2 e3;injection e1 with e1;injection e1 with e1 _ _;subst e1 e3;have hl:(l.set i y).length=l.length:=by simp
  have hs0:0<size:=by omega
  refine ⟨by rw [flat_length f size hf],.inr ⟨g,c,_,by rw [hl,e2],hg,aj.fC hh (i*size+j) u,by rw [hl];exact hnc,hcm,by simpa using hcs,?_⟩⟩;apply List.ext_getElem?;intro m;rw [List.getElem?_take,hl];by_cases hm:m<l.length*size
  ·rw [if_pos hm,afN f size hf l i hi y m hm];have hcur:(l.flatMap f)[m]? = cur[m]? := by
    rw [<- hx,List.getElem?_take,if_pos hm];simp
   have hmc:m<cur.size:=by rw [hcs];have:=Nat.mul_le_mul_right size hnc;omega
   have hdm:=Nat.div_add_mod m size;have hml:=Nat.mod_lt m hs0;rw [hcur];simp only [Array.getElem?_toList,Array.getElem?_setIfInBounds,Array.size_setIfInBounds];by_cases yu:m / size=i
   ·rw [if_pos yu,hy,List.getElem?_set];have hm2:m=i*size+m % size:=by rw [<- yu,Nat.mul_comm];omega
    by_cases hmj:j=m % size
    ·rw [if_pos hmj,if_pos (show j<(f l[i]).length by rw [hf];exact hj),if_pos (show i*size+j=m by omega)]
     first | rw [if_pos hmc] | rw [if_pos (show i*size+j<cur.size by omega)]
    ·rw [if_neg hmj,if_neg (by omega)];have e2:=flat_get f size hf l i (m % size) hi hml;rw [<- hm2] at e2;rw [<- e2,hcur]
   · rw [if_neg yu,if_neg (fun e=>yu (by rw [<- e,Nat.mul_comm,Nat.mul_add_div hs0,Nat.div_eq_of_lt hj];rfl))]
  · rw [if_neg hm,List.getElem?_eq_none (by rw [flat_length f size hf,hl];omega)]
open Go.RowKit Go.Sort
def Jo (w:World) (v:Value) (l:List Rn):Prop:=Sl w v l.length (l.flatMap iO)
theorem Jo.mono {w w':World} {v:Value} {l:List Rn} (h:Jo w v l) (hb:Below w.heap.size w w'):Jo w' v l:=Sl.mono h hb
theorem Row.rn {w:World} {A:Option Addr} {l:List Rn} (h:Row w A (l.flatMap iO)) {k:Nat} (hk:k<l.length) :
  ∃ b o,A=some ⟨b,o,none⟩/\b<w.heap.size/\w.cell? ⟨b,o+k*2,none⟩=some (.int .i64 l[k].lo)/\w.cell? ⟨b,o+k*2+1,none⟩=some (.int .i64 l[k].hi):=by
 obtain ⟨b,o,hA,hb,hc⟩:=h.at_ (n:=2) (fun _=>rfl) hk (by omega);exact ⟨b,o,hA,hb,hc 0 _ rfl,hc 1 _ rfl⟩
theorem Own.afO {α:Type} {f:α->List Value} {w:World} {base:Nat} {e:TypeId} {size:Nat} {A:Option Addr} {n c:Nat} {l:List α} (h:Own w base e size f (.slice A n c) l):Row w A (l.flatMap f):=by
 obtain ⟨A',c',he,-,-,hr⟩:=h.sl;injection he with e1 e2 e3;subst e1;exact hr
theorem Own.Jp {w:World} {B:Nat} {A:Option Addr} {n c:Nat} {L:List Rn} (h:Own w B 121 2 iO (.slice A n c) L) (hl:0<L.length):∃ g,A=some ⟨g,0,none⟩/\B<=g/\g<w.heap.size/\(∀ j,w.frozen? ⟨g,j,none⟩=false) /\
  ∀ k (hk:k<L.length),w.cell? ⟨g,k*2,none⟩=some (.int .i64 L[k].lo)/\w.cell? ⟨g,k*2+1,none⟩=some (.int .i64 L[k].hi):=by
 have hr:=h.afO;rcases h.2 with ⟨_,h0⟩ | ⟨g,cap,cur,hv,hg,hh,-⟩
 · omega
 ·injection hv with e1 e2 e3;subst e1;refine ⟨g,rfl,hg,aj.lt hh,fun j=>aj.frozen hh j,fun k hk=>?_⟩;obtain ⟨b,o,iJ,-,c0,c1⟩:=Row.rn hr hk;injection iJ with iJ;injection iJ with y1 y2 _;subst y1 y2;rw [Nat.zero_add] at c0 c1;exact ⟨c0,c1⟩
def aav (w:World) (l:List Rn) (e:Ending) (w':World):Prop:=∃ A c,e=.returned (.slice A l.length c)/\Own w' w.heap.size 121 2 iO (.slice A l.length c) l/\Below w.heap.size w w'
theorem an5 (out:List Rn) (r:Rn):(xU out r).length<=out.length+1:=by
 unfold xU;split
 · omega
 ·split
  · rw [List.length_set];omega
  · simp
def qh (l:List Rn) (k:Nat):List Rn:=(l.take k).foldl xU []
theorem afP {l:List Rn} {k:Nat} (hk:k<l.length):qh l (k+1)=xU (qh l k) l[k]:=by
 unfold qh;rw [List.take_succ_eq_append_getElem hk,List.foldl_append];rfl
theorem aaw (l:List Rn):∀ k,(qh l k).length<=k
 | 0=>by simp [qh]
 | k+1=>by
  have ih:=aaw l k;by_cases hk:k<l.length
  ·rw [afP hk];have:=an5 (qh l k) l[k]
   omega
  ·have:qh l (k+1)=qh l k:=by unfold qh;rw [List.take_of_length_le (by omega),List.take_of_length_le (by omega)]
   rw [this];omega
set_option maxRecDepth 100000 in
set_option maxHeartbeats 8000000 in
theorem afQ (v:Value) (l:List Rn) (w:World) (h:Jo w v l) (hl:l.length<=100000):Calls Tryz.prog 254 #[v] w (aav w (sO l)):=by
 have vg:=Lib.hid (@an2);have aax:=Lib.hid (fun m (hp:m.Perm l) hs=>ame (l:=l) (m:=m) hp hs);obtain ⟨A,c,rfl,hn1,hn2,hR⟩:=h;unfold maxLen at hn2;have HR:=Lib.hid (show Jo w (.slice A l.length c) l from ⟨A,c,rfl,hn1,by unfold maxLen;omega,hR⟩);obtain ⟨R,hRr⟩:∃ R,sO l=R:=⟨_,rfl⟩;rw [hRr] at aax ⊢;clear hR hRr;go_enter Tryz.func254,Tryz.ntmps254;go_upto_region 2 with
  (at_make
   obtain ⟨ht_,i_,z_,hi_,hz_,afR,afS,an6,an7⟩:=Ez;refine wpList_make_full _ rfl (.tmp 8) (.tmp 8) _ rfl w.heap.size _ i_ z_ 2 ht_ hi_ hz_ afR .i64 .i64 _ _ l.length rfl rfl rfl rfl (by rw [afS];omega) (fQ (by omega)) (Nat.le_refl _) ?_;intro w1 ho1 hg1;have rD:=Lib.hid ho1;have HB1:=Lib.hid (bG (bR w) hg1 (fun k hk=>by cases hk));clear ho1 hg1 ht_ hi_ hz_ afR afS an6 an7)
 generalize (madeCells z_.cells (l.length*2)).toList=zs at *;go_upto_region 3 with
  (refine an4 _ rfl (.tmp 10) (.tmp 11) _ rfl Ez Dp Ey rfl rD.out (l:=l) rfl rfl (HR.out.mono HB1.out) ?_
   intro w2 ho2 hg2;have iK:=Lib.hid ho2;have HB2:=Lib.hid (bG HB1.out hg2 (fun k hk=>(rD.out.lt k hk).1));clear ho2 hg2)
 go_wp2_with fail;refine (vg.out w.heap.size _ l _ iK.out (by omega)).mono ?_;rintro e w3 ⟨rfl,m,hp,hs,ho3,hg3⟩;have hm:=aax.out m hp (hs.imp (fun {a b} g=>by rw [La (fun x:Rn=>x.lo),decide_eq_false_iff_not] at g;omega));have hml:m.length=l.length:=hp.length_eq;have HM:=Lib.hid hm;have HB3:=Lib.hid (bG HB2.out hg3 (fun k hk=>(iK.out.lt k hk).1));have hsl:=ho3.sl;rw [hml] at hsl;have zq:=Lib.hid hsl;have au0:m.length<=100000:=by omega
 have HLm:=Lib.hid hml;have hz3:=HB3.out.size;clear aax vg HR rD HB1 iK HB2 hp hs ho3 hg3 hm hsl hml;go_upto_block 0 with fail;go_wp2_with fail;go_loopw [2,17] (fun s i wr=>∃ k:Nat,k<=l.length/\i=.int .i64 k/\(∃ A c,s=.slice A (qh m k).length c)/\Own wr w3.heap.size 121 2 iO s (qh m k)/\Below w3.heap.size w3 wr) (fun _ i _=>l.length-(intOf i).toNat)
 case atStart => exact ⟨0,Nat.zero_le _,rfl,⟨none,0,rfl⟩,Own.nil _ _ _ _ _,bR w3⟩
 case round =>
  obtain ⟨k,hk,rfl,⟨A',c',rfl⟩,ho,hb⟩:=hrel;obtain ⟨wo,rfl⟩:∃ wo:World,wo=wr:=⟨_,rfl⟩;have HO:=Lib.hid ho;have HB:=Lib.hid hb;have hzo:=hb.size;clear ho hb;by_cases hlt:k<l.length
  ·have hkm:k<m.length:=by have:=HLm.out;omega
   have hsu:=afP hkm;have Jq:=aaw m k;obtain ⟨A3,c3,he3,-,-,hR3⟩:=zq.out.mono HB.out;injection he3 with y1 y2 y3;subst y1;clear y2 y3;obtain ⟨b,o,iJ,hlb,c0,c1⟩:=Row.rn hR3 hkm;injection iJ with iJ;injection iJ with y1 y2 _;subst y1 y2;simp only [Nat.zero_add] at c0 c1;generalize m[k]=r at *;obtain ⟨Q,hQ⟩:∃ Q,qh m k=Q:=⟨_,rfl⟩;rw [hQ] at HO hsu Jq ⊢;have Md:=Lib.hid hsu;have HQe:=Lib.hid hQ;have k1:(k:Int)<l.length:=by omega
   have k2:0<=(k:Int):=by omega
   clear hsu hQ hR3;by_cases e1:r.hi<=r.lo
   ·have hq:qh m (k+1)=Q:=by rw [Md.out];unfold xU;rw [if_pos e1]
    have vH:=Lib.hid hq;have P8:=Lib.hid (bA HB.out (.cells #[.int .i64 r.lo,.int .i64 r.hi] 121));have EC:=Lib.hid (Own.alloc HO.out (.cells #[.int .i64 r.lo,.int .i64 r.hi] 121));clear hq;go_wp2_with fail;go_roundw
    case rel => exact ⟨k+1,by omega,by go_num,⟨A',c',by rw [vH.out]⟩,by rw [vH.out];exact EC.out,P8.out⟩
    case measure => simp [intOf];omega
   ·have hn1:IntKind.i64.wrap ((Q.length:Int)-1)=(Q.length:Int)-1:=IntWalk.i64_in _ (by omega);go_upto_region 10 with fail;obtain ⟨W2,hW2⟩:∃ W:World,W=wo.alloc (.cells #[.int .i64 r.lo,.int .i64 r.hi] 121):=⟨_,rfl⟩;have hA1:Below wo.heap.size wo W2:=by rw [hW2];exact bA (bR wo) _
    obtain ⟨g5,hg5⟩:∃ g5,wo.heap.size=g5:=⟨_,rfl⟩;have X5:aj W2 g5 121 #[.int .i64 r.lo,.int .i64 r.hi]:=by rw [hW2];exact aj.made hg5.symm _ _
    have iK:=Lib.hid (HO.out.keep hA1);have HB2:=Lib.hid (bT HB.out hA1);have bV:=Lib.hid X5;have hgl:=fun q hq=>(HO.out.lt q hq).2;rw [<- hW2]
    try rw [hg5]
    clear hW2 hA1 c0 c1 hlb HO HB;obtain ⟨dw,dB,dL,-,-⟩:=X5.bH;rcases Nat.eq_zero_or_pos Q.length with h0 | h0
    ·have hq:qh m (k+1)=Q++[r]:=by rw [Md.out,List.eq_nil_of_length_eq_zero h0];unfold xU;rw [if_neg e1,if_neg (by simp)]
     have vH:=Lib.hid hq;have kq:¬ (1:Int)<=(Q.length:Int):=by omega
     clear h0 hq hn1;refine cZ (Since W2) (.run 13 0 0 (.done)) (by kernel_rfl) (bD (bR _)) (by kernel_rfl) (by kernel_rfl) (Nat.le_of_ble_eq_true (by kernel_rfl)) ?_;intro dn QR au aC hS
     iterate 3
      apply bn;exact au;exact rfl;exact hS;exact rfl
      · intro _ hqc;go_simp;try rfl
      try simp only [pu]
     iterate 8
      refine qB au rfl hS rfl rfl rfl rfl rfl ?_
      try simp only [pu]
     iterate 2
      apply bn;exact au;exact rfl;exact hS;exact rfl
      · intro _ hqc;go_simp;try rfl
      try simp only [pu]
     refine bQ ?_;refine aC.down _ _ ?_;have hB:Below W2.heap.size W2 W2.drew:=hS;clear hS aC au;obtain ⟨W3,hW3⟩:∃ W:World,W=W2.drew:=⟨_,rfl⟩;rw [<- hW3] at hB ⊢;have iU:=Lib.hid (iK.out.keep hB);have Jr:=Lib.hid (bT HB2.out hB);have jI:=Lib.hid (bV.out.keep hB);clear hB hW3 X5 dw dB dL bV iK HB2;have hsh:(Q++[r]).length=Q.length+1:=by simp
     have fD:=Lib.hid hsh;have X5:=jI.out;clear hsh
     try clear dw
     try clear dB
     try clear dL
     obtain ⟨dw,dB,dL,-,-⟩:=X5.bH;go_wp2_with
      (at_builtin
       refine lq _ rfl (.tmp 24) (.tmp 26) _ rfl (base:=w3.heap.size) Ez Dp Ey rfl (Own.alloc iU.out _) rfl (l2:=[r]) (Sl.lit (n:=1) (aj.made rfl _ _) rfl (fQ (by omega))) (by simp only [List.length_cons,List.length_nil];omega) (by simp only [List.length_cons,List.length_nil];omega) (by have:=Jr.out.size;simp;omega) ?_;intro v4 w4 Dt hg4 aay;obtain ⟨A4,c4,hv4,-⟩:=Dt.sl;rw [fD.out] at hv4;subst hv4;have uK:=Lib.hid Dt;have HB4:=Lib.hid (bG (bA Jr.out _) hg4 (fun g hg=>(iU.out.lt g hg).1));clear Dt hg4 aay
       )
     go_roundw
     case rel => exact ⟨k+1,by omega,by go_num,⟨A4,c4,by rw [vH.out,fD.out]⟩,by rw [vH.out];exact uK.out,HB4.out⟩
     case measure => simp [intOf];omega
    ·obtain ⟨n,hn⟩:∃ n,Q.length=n+1:=⟨Q.length-1,by omega⟩;have hnl:n<Q.length:=by omega
     have hq1:(Q.length:Int)-1=(n:Int):=by omega
     have hgd:Q.getD (Q.length-1) Ua=Q[n]:=by
      rw [hn,List.getD_eq_getElem?_getD,show n+1-1=n by omega,List.getElem?_eq_getElem hnl];rfl
     have aaz:Q.length-1=n:=by omega
     have hsu:=Md.out;unfold xU at hsu;rw [if_neg e1,hgd,aaz] at hsu;rw [hq1];obtain ⟨gQ,hgA,hgQ,au1,hfz,hce⟩:=Own.Jp iK.out h0;subst hgA;obtain ⟨d0,d1⟩:=hce n hnl;have hf1:=hfz (n*2+1);have kq:(0:Int)<=(n:Int):=by omega
     have kn:(n:Int)<(Q.length:Int):=by omega
     have hq5:¬ gQ=g5:=by
      have:=hgl gQ rfl
      omega
     obtain ⟨z,hz⟩:∃ z,Q[n]=z:=⟨_,rfl⟩;rw [hz] at d0 d1 hsu;by_cases e2:r.lo<=z.hi
     ·rw [if_pos ⟨h0,e2⟩] at hsu;have vH:=Lib.hid hsu;have HZ:=Lib.hid hz;clear hsu hgd aaz hn hce hfz hz h0 hn1;refine cZ (Since W2) (.run 13 0 0 (.done)) (by kernel_rfl) (bD (bR _)) (by kernel_rfl) (by kernel_rfl) (Nat.le_of_ble_eq_true (by kernel_rfl)) ?_;intro dn QR au aC hS
      iterate 3
       apply bn;exact au;exact rfl;exact hS;exact rfl
       · intro _ hqc;go_simp;try rfl
       try simp only [pu]
      iterate 8
       apply eF;exact au;exact rfl;exact hS;iterate 4 exact rfl
       · intro _ hqc;go_simp;try rfl
       try simp only [pu]
      iterate 2
       apply bn;exact au;exact rfl;exact hS;exact rfl
       · intro _ hqc;go_simp;try rfl
       try simp only [pu]
      refine bQ ?_;refine aC.down _ _ ?_;have hB:Below W2.heap.size W2 W2.drew:=hS;clear hS aC au;obtain ⟨W3,hW3⟩:∃ W:World,W=W2.drew:=⟨_,rfl⟩;rw [<- hW3] at hB ⊢;have iU:=Lib.hid (iK.out.keep hB);have Jr:=Lib.hid (bT HB2.out hB);have jI:=Lib.hid (bV.out.keep hB);clear hB hW3 X5 dw dB dL bV iK HB2 d0 d1 hf1;obtain ⟨g',hgA,-,au2,afT,afU⟩:=Own.Jp iU.out (by omega);injection hgA with hgA;injection hgA with hgA _ _;subst hgA;obtain ⟨-,d1⟩:=afU n hnl;rw [HZ.out] at d1;have hf1:=afT (n*2+1);obtain ⟨mx,hmx⟩:∃ mx:Int,mx=max z.hi r.hi:=⟨_,rfl⟩;have hset:=Own.Mc Dp iU.out hnl (j:=1) (by omega) ⟨z.lo,mx⟩ (.int .i64 mx) (by rw [HZ.out];rfl);have aaA:=Lib.hid (show Own (W3.setCell ⟨gQ,n*2+1,none⟩ (.int .i64 mx)).drew w3.heap.size 121 2 iO (.slice (some ⟨gQ,0,none⟩) Q.length c') (Q.set n ⟨z.lo,mx⟩) from hset);have Me:=Lib.hid (bD (bS (p:=⟨gQ,n*2+1,none⟩) Jr.out hgQ (.int .i64 mx)));have hq:=vH.out;rw [<- hmx] at hq;have MB:=Lib.hid hq;have Hmx:=Lib.hid hmx;have X5:=jI.out;clear hset hmx hq afU afT vH
      try clear dw
      try clear dB
      try clear dL
      obtain ⟨dw,dB,dL,-,-⟩:=X5.bH;have nq5:¬ some g5=some gQ:=fun e=>hq5 (Option.some.inj e).symm;go_upto_region 11 with fail;refine cZ (jH W3 (some gQ)) (.run 6 0 0 (.take 7 191 (.take 8 447 (.call 6 511 (.run 3 9 511 (.call 12 8191 (.done))))))) (by kernel_rfl) (gD (gR _ _)) (by kernel_rfl) (by kernel_rfl) (Nat.le_of_ble_eq_true (by kernel_rfl)) ?_;intro dn QR au aC hS
      iterate 8
       apply jU;exact au;exact rfl;exact hS;exact rfl
       · intro _ hqc;go_simp;try rfl
       try simp only [pu]
      refine aW (i:=6) (aH au rfl) (fun K hK=>?_);have aA:=Lib.hid hS;clear hS;refine aN (aV rfl) ?_;go_simp;refine hK.out _ _ aA.out (fun hS=>?_);clear hK K aA
      try simp only [pu]
      iterate 3
       apply jU;exact au;exact rfl;exact hS;exact rfl
       · intro _ hqc;go_simp;try rfl
       try simp only [pu]
      refine aW (i:=12) (aH au rfl) (fun K hK=>?_);have aA:=Lib.hid hS;clear hS;refine aN (aV rfl) ?_;go_simp;refine hK.out _ _ (by first | exact gS aA.out _ _ | (unfold jH;have vI:World.grownBy _ _ _:=aA.out;repeat (first | with_reducible assumption | with_reducible exact World.grownBy.refl _ _ | with_reducible refine gS ?_ _ _ | with_reducible refine gD ?_ | with_reducible refine gA ?_ _))) (fun hS=>?_);clear hK K aA
      try simp only [pu]
      refine bQ ?_;refine aC.down _ _ ?_;have hB:W3.grownBy _ (some gQ):=hS;clear hS aC au;rw [<- Hmx.out];go_wp2_with fail;go_roundw
      case rel => exact ⟨k+1,by omega,by go_num,⟨some ⟨gQ,0,none⟩,c',by rw [MB.out,List.length_set]⟩,by rw [MB.out];exact aaA.out,Me.out⟩
      case measure => simp [intOf];omega
     ·rw [if_neg (fun g=>e2 g.2)] at hsu;have vH:=Lib.hid hsu;clear hsu hgd aaz hn hce hfz hz h0 hn1;refine cZ (Since W2) (.run 13 0 0 (.done)) (by kernel_rfl) (bD (bR _)) (by kernel_rfl) (by kernel_rfl) (Nat.le_of_ble_eq_true (by kernel_rfl)) ?_;intro dn QR au aC hS
      iterate 3
       apply bn;exact au;exact rfl;exact hS;exact rfl
       · intro _ hqc;go_simp;try rfl
       try simp only [pu]
      iterate 8
       apply eF;exact au;exact rfl;exact hS;iterate 4 exact rfl
       · intro _ hqc;go_simp;try rfl
       try simp only [pu]
      iterate 2
       apply bn;exact au;exact rfl;exact hS;exact rfl
       · intro _ hqc;go_simp;try rfl
       try simp only [pu]
      refine bQ ?_;refine aC.down _ _ ?_;have hB:Below W2.heap.size W2 W2.drew:=hS;clear hS aC au;obtain ⟨W3,hW3⟩:∃ W:World,W=W2.drew:=⟨_,rfl⟩;rw [<- hW3] at hB ⊢;have iU:=Lib.hid (iK.out.keep hB);have Jr:=Lib.hid (bT HB2.out hB);have jI:=Lib.hid (bV.out.keep hB);clear hB hW3 X5 dw dB dL bV iK HB2;have hsh:(Q++[r]).length=Q.length+1:=by simp
      have fD:=Lib.hid hsh;have X5:=jI.out;clear hsh
      try clear dw
      try clear dB
      try clear dL
      obtain ⟨dw,dB,dL,-,-⟩:=X5.bH;go_wp2_with
       (at_builtin
        refine lq _ rfl (.tmp 24) (.tmp 26) _ rfl (base:=w3.heap.size) Ez Dp Ey rfl (Own.alloc iU.out _) rfl (l2:=[r]) (Sl.lit (n:=1) (aj.made rfl _ _) rfl (fQ (by omega))) (by simp only [List.length_cons,List.length_nil];omega) (by simp only [List.length_cons,List.length_nil];omega) (by have:=Jr.out.size;simp;omega) ?_;intro v4 w4 Dt hg4 aay;obtain ⟨A4,c4,hv4,-⟩:=Dt.sl;rw [fD.out] at hv4;subst hv4;have uK:=Lib.hid Dt;have HB4:=Lib.hid (bG (bA Jr.out _) hg4 (fun g hg=>(iU.out.lt g hg).1));clear Dt hg4 aay
        )
      go_roundw
      case rel => exact ⟨k+1,by omega,by go_num,⟨A4,c4,by rw [vH.out,fD.out]⟩,by rw [vH.out];exact uK.out,HB4.out⟩
      case measure => simp [intOf];omega
  ·have hkk:qh m k=R:=by
    have:=HLm.out
    rw [<- HM.out];unfold qh IX;rw [List.take_of_length_le (by omega)]
   have MC:=Lib.hid (show Own wo w.heap.size 121 2 iO (.slice A' (qh m k).length c') (qh m k) from HO.out.jG hz3);rw [hkk] at MC;generalize qh m k=Q at *;subst hkk;clear HO;go_wp2_with fail;go_ret;exact ⟨A',c',rfl,MC.out,bT HB3.out HB.out⟩
structure Bo (w w':World) (g:Nat) (r:Option Nat):Prop where
 size:w.heap.size<=w'.heap.size
 blk:∀ g1,g1<w.heap.size->g1≠g->r≠some g1->w'.heap[g1]? = w.heap[g1]?
theorem Bo.refl (w:World) (g:Nat) (r:Option Nat):Bo w w g r:=⟨Nat.le_refl _,fun _ _ _ _=>rfl⟩
theorem Bo.keep {w w':World} {g:Nat} {r:Option Nat} (h:Bo w w' g r) {g1:Nat} {t:TypeId} {cs:Array Value} (hb:aj w g1 t cs) (h1:g1≠g) (h2:r≠some g1):aj w' g1 t cs:=(h.blk g1 hb.lt h1 h2).trans hb
theorem Bo.own {w w':World} {g:Nat} {r:Option Nat} (h:Bo w w' g r) {α:Type} {B:Nat} {e:TypeId} {n:Nat} {f:α->List Value} {v:Value} {l:List α} (ho:Own w B e n f v l) (h1:v.ownBlock≠some g) (h2:∀ k,v.ownBlock=some k->r≠some k):Own w' B e n f v l:=by
 obtain ⟨h0,h3⟩:=ho;refine ⟨h0,?_⟩;rcases h3 with h3 | ⟨q,cap,cur,rfl,a1,a2,a3⟩
 · exact .inl h3
 · exact .inr ⟨q,cap,cur,rfl,a1,Bo.keep h (cs:=cur) a2 (fun e=>h1 (by rw [e];rfl)) (h2 q rfl),a3⟩
def NewAt (w:World) (v v':Value):Prop:=v'.ownBlock=v.ownBlock\/∃ k,v'.ownBlock=some k/\w.heap.size<=k
set_option maxRecDepth 100000 in
set_option maxHeartbeats 1000000 in
theorem an8 (lo hi:Int) (B g:Nat) (l:List Rn) (v:Value) (w:World) (h:Dq w B g l v) (hB:B<=w.heap.size) (hl:l.length<=4000000000) :
  Calls Tryz.prog 253 #[.int .i64 lo,.int .i64 hi,.pointer (some ⟨g,0,none⟩)] w fun e w'=>e=.returned (.tuple #[])/\(∃ v',Dq w' B g (l++kP lo hi) v'/\NewAt w v v')/\Bo w w' g v.ownBlock/\∀ w0:World,Below w0.heap.size w0 w->w0.heap.size<=B->w0.heap.size<=g->Below w0.heap.size w0 w':=by
 obtain ⟨X4,own⟩:=h;obtain ⟨A,c,rfl,-⟩:=Own.sl own;have dI:=Lib.hid X4;have HO:=Lib.hid own;have n4:=Own.dU own X4 (by decide);clear own;unfold kP;by_cases hlt:lo<hi
 ·rw [if_pos hlt];obtain ⟨dF,dG,fH⟩:=X4.ig;go_enter Tryz.func253,Tryz.ntmps253;have hsh:(l++[(⟨lo,hi⟩:Rn)]).length=l.length+1:=by simp
  have fD:=Lib.hid hsh;clear hsh;go_wp2_with
   (at_builtin
    refine lq _ rfl (.tmp 8) (.tmp 12) _ rfl (base:=B) Ez Dp Ey rfl (Own.alloc HO.out _) rfl (l2:=[(⟨lo,hi⟩:Rn)]) (Sl.lit (n:=1) (aj.made rfl _ _) rfl (fQ (by omega))) (by simp only [List.length_cons,List.length_nil];omega) (by simp only [List.length_cons,List.length_nil];omega) (by simp;omega) ?_;intro v3 w3 ho3 hg3 qj;obtain ⟨A3,c3,hv3,-⟩:=ho3.sl;rw [fD.out] at hv3;subst hv3;have iU:=Lib.hid ho3;have tN:=aj.grown (dI.out.alloc _) hg3 (fun e=>n4 e.symm);have an9:=Lib.hid tN;have HN3:=Lib.hid (Own.dU ho3 tN (by decide));have HAt:=Lib.hid (show NewAt w (.slice A l.length c) (.slice A3 (l.length+1) c3) from qj.imp id (fun e=>⟨_,e,by simp⟩));have HK:=Lib.hid (show Bo w (w3.setCell ⟨g,0,none⟩ (.slice A3 (l.length+1) c3)) g (Value.slice A l.length c).ownBlock from ⟨by have:=hg3.size;simp at this;simp;omega,fun g1 h1 h2 h3=>by
     have h4:=hg3.block g1 (by simp;omega) (fun e=>h3 e.symm);rw [Below.heap_setCell w3 ⟨g,0,none⟩ _ g1 h2,h4];exact Below.heap_alloc w _ g1 h1⟩)
    have HB3:=Lib.hid (show ∀ w0:World,Below w0.heap.size w0 w->w0.heap.size<=B->w0.heap.size<=g->Below w0.heap.size w0 (w3.setCell ⟨g,0,none⟩ (.slice A3 (l.length+1) c3)) from fun w0 h1 h2 h3=>bS (p:=⟨g,0,none⟩) (bG (bA h1 _) hg3 (fun k hk=>Nat.le_trans h2 (HO.out.lt k hk).1)) h3 _);clear ho3 hg3 qj X4 dF dG fH;obtain ⟨Gy,Gz,GH⟩:=tN.ig
    )
  have HF:=Lib.hid (show Dq (w3.setCell ⟨g,0,none⟩ (.slice A3 (l.length+1) c3)) B g (l++[(⟨lo,hi⟩:Rn)]) (.slice A3 (l.length+1) c3) from ⟨an9.out.fC 0 _,iU.out.far HN3.out _⟩);exact bodyPost_end (v:=.tuple #[]) (results_none rfl _ _ _) rfl ⟨rfl,⟨_,HF.out,HAt.out⟩,HK.out,HB3.out⟩
 ·rw [if_neg hlt,List.append_nil];go_enter Tryz.func253,Tryz.ntmps253;go_wp2_with fail;exact bodyPost_end (v:=.tuple #[]) (results_none rfl _ _ _) rfl ⟨rfl,⟨_,⟨dI.out,HO.out⟩,.inl rfl⟩,Bo.refl _ _ _,fun w0 h1 _ _=>h1⟩
set_option linter.unusedSectionVars false
def lV (a b:Int):Bool:=decide (gJ a<gJ b) || (decide (gJ a=gJ b) && decide (b<a))
theorem GI {a b:Int}:lV a b=true↔gJ a<gJ b\/(gJ a=gJ b/\b<a):=by unfold lV;simp
theorem aoa (a:Int):lV a a=false:=by rw [<- Bool.not_eq_true,GI];omega
theorem aob {a b:Int} (h1:lV a b=false) (h2:lV b a=false):a=b:=by
 rw [<- Bool.not_eq_true,GI] at h1 h2;unfold gJ at *;split at h1<;>split at h1<;>simp_all<;>omega
theorem afV {a b c:Int} (h1:lV a b=true) (h2:lV b c=true):lV a c=true:=by
 rw [GI] at *;omega
theorem aoc {a b:Int} (h1:lV a b=true):lV b a=false:=by
 rw [<- Bool.not_eq_true];intro h2;rw [GI] at h1 h2;omega
def Bq (k d:Int):Int:=if lV d k then d else k
def zu (c:List Int) (n:Nat):Int:=(c.take n).foldl Bq (c.headD 0)
def fP (c:List Int):Int:=c.foldl Bq (c.headD 0)
theorem aod {c:List Int} {n:Nat} (hn:n<c.length):zu c (n+1)=Bq (zu c n) c[n]:=by
 unfold zu;rw [List.take_succ_eq_append_getElem hn,List.foldl_append];rfl
theorem aoe (c:List Int):zu c c.length=fP c:=by unfold zu fP;rw [List.take_length]
theorem aaB:∀ (l:List Int) (k:Int),l.foldl Bq k=k\/l.foldl Bq k∈l
 | [],k=>.inl rfl
 | d::l,k=>by
  rw [List.foldl_cons];rcases aaB l (Bq k d) with h | h
  ·rw [h];unfold Bq;split
   · exact .inr List.mem_cons_self
   · exact .inl rfl
  · exact .inr (List.mem_cons_of_mem _ h)
theorem UK {c:List Int} (h:c≠[]):fP c∈c:=by
 rcases aaB c (c.headD 0) with e | e
 ·unfold fP;rw [e]
  cases c with
  | nil=>exact absurd rfl h
  | cons a c=>exact List.mem_cons_self
 · exact e
def GK (X:List Int) (l:List (List Int)):List (List Int):=l.takeWhile (fun Y=>!lV (fP X) (fP Y))++X::l.dropWhile (fun Y=>!lV (fP X) (fP Y))
def sortK (l:List (List Int)):List (List Int):=l.foldl (fun acc X=>GK X acc) []
def Bv (X Y:List Int):Bool:=lV (fP X) (fP Y)
theorem aof (X:List Int) (l:List (List Int)):(GK X l).Perm (X::l):=by
 unfold GK;refine List.perm_middle.trans ?_;rw [List.takeWhile_append_dropWhile]
theorem aog {X:List Int} {l:List (List Int)} (h:l.Pairwise (fun a b=>Bv b a=false)):(GK X l).Pairwise (fun a b=>Bv b a=false):=by
 unfold GK;have hall:(l.takeWhile (fun Y=>!lV (fP X) (fP Y))++l.dropWhile (fun Y=>!lV (fP X) (fP Y)))=l:=List.takeWhile_append_dropWhile;have h1:∀ Y∈l.takeWhile (fun Y=>!lV (fP X) (fP Y)),lV (fP X) (fP Y)=false:=fun Y hY=>by
  have:=List.all_eq_true.1 (List.all_takeWhile (p:=fun Y=>!lV (fP X) (fP Y)) (l:=l)) Y hY
  simpa using this
 have h2:∀ Y∈l.dropWhile (fun Y=>!lV (fP X) (fP Y)),lV (fP Y) (fP X)=false:=by
  intro Y hY
  cases hd:l.dropWhile (fun Y=>!lV (fP X) (fP Y)) with
  | nil=>rw [hd] at hY;cases hY
  | cons Z m =>
   have hZ:lV (fP X) (fP Z)=true:=by
    have:=List.head_dropWhile_not (fun Y=>!lV (fP X) (fP Y)) (l:=l) (by rw [hd];simp)
    simp only [hd,List.head_cons] at this;simpa using this
   rw [hd] at hY;rcases List.mem_cons.1 hY with rfl | hY
   · exact aoc hZ
   ·have hp:(Z::m).Pairwise (fun a b=>Bv b a=false):=by
     have:=h
     rw [<- hall,List.pairwise_append] at this;rw [<- hd];exact this.2.1
    have:=(List.pairwise_cons.1 hp).1 Y hY
    rw [<- Bool.not_eq_true];intro hc;have h3:=afV hc hZ;unfold Bv at this;rw [h3] at this
    cases this
 have hp:=h;rw [<- hall,List.pairwise_append] at hp;rw [List.pairwise_append,List.pairwise_cons];refine ⟨hp.1,⟨h2,hp.2.1⟩,fun a ha b hb=>?_⟩;rcases List.mem_cons.1 hb with rfl | hb
 · exact h1 a ha
 · exact hp.2.2 a ha b hb
theorem UL (l:List (List Int)):(sortK l).Perm l/\(sortK l).Pairwise (fun a b=>Bv b a=false):=by
 have:∀ (l acc:List (List Int)),acc.Pairwise (fun a b=>Bv b a=false)->(l.foldl (fun acc X=>GK X acc) acc).Perm (acc++l)/\(l.foldl (fun acc X=>GK X acc) acc).Pairwise (fun a b=>Bv b a=false):=by
  intro l
  induction l with
  | nil=>intro acc h;exact ⟨by rw [List.append_nil];exact List.Perm.refl _,h⟩
  | cons X l ih =>
   intro acc h;rw [List.foldl_cons];obtain ⟨h1,h2⟩:=ih (GK X acc) (aog h);refine ⟨h1.trans ?_,h2⟩;exact ((aof X acc).append_right l).trans (List.perm_middle (l₁:=acc) (l₂:=l) (a:=X)).symm
 have h:=this l [] List.Pairwise.nil;rw [List.nil_append] at h;exact h
section
variable {p:Pl} (h:Valid p)
include h
theorem Valid.aoh {X Y:List Int} (hX:X∈bF p) (hY:Y∈bF p) (h1:Bv X Y=false) (h2:Bv Y X=false):X=Y:=by
 obtain ⟨x,-,-,-,hx⟩:=h.uI hX;obtain ⟨y,-,-,-,hy⟩:=h.uI hY;have e:fP X=fP Y:=aob h1 h2;refine h.Eo hX hY (UK (fun e=>by rw [e] at hx;cases hx)) ?_;rw [e];exact UK (fun e=>by rw [e] at hy;cases hy)
theorem Valid.aoi {l:List (List Int)} (hl:l.Perm (aI p)) (hs:l.Pairwise (fun a b=>Bv b a=false)):l=sortK (aI p):=by
 obtain ⟨h1,h2⟩:=UL (aI p);refine Ll (lt:=Bv) (hl.trans h1.symm) hs h2 fun a ha b hb g1 g2=>?_;have ma:=(fF.1 (hl.subset ha)).1;have mb:=(fF.1 (hl.subset hb)).1;exact h.aoh ma mb g1 g2
end
end Go.Proofs.YtialfdomhoojiaaGreat
