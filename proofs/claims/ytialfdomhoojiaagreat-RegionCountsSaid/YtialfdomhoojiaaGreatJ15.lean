import Derived.Test.YtialfdomhoojiaaGreatGB
import Derived.Test.YtialfdomhoojiaaGreatJ03
import Derived.Test.YtialfdomhoojiaaGreatJ01
import Derived.Test.YtialfdomhoojiaaGreatJ14
import Derived.Test.YtialfdomhoojiaaGreatJ05
import Derived.Test.YtialfdomhoojiaaGreatJ06
import Derived.Test.YtialfdomhoojiaaGreatLaySortRn
import Derived.Laws.CopyRow
import Derived.Laws.IdiomCopy
import Derived.OwnWalk
import Derived.Deep.CutBlock
import Derived.Test.YtialfdomhoojiaaGreatJ13
import Derived.Test.YtialfdomhoojiaaGreatJ07
set_option linter.unusedSimpArgs false
set_option linter.unusedVariables false
namespace Go.Proofs.YtialfdomhoojiaaGreat
open Go.RowKit
theorem oM {B:Nat} {W w:World} (hB:B<=W.heap.size) (h:Below B W w) (o:Obj):Below B W (w.alloc o):=h.alloc (Nat.le_trans hB h.size) o
theorem xu {B b i:Nat} {W w:World} (h:Below B W w) (hb:B<=b) (u:Value):Below B W (w.setCell ⟨b,i,none⟩ u):=h.setCell (p:=⟨b,i,none⟩) hb u
def Dl (x:Ar×SV):List Value:=[.int .i64 x.1.id,.int .i64 x.1.fr,.int .i64 x.1.dst,.slice x.2.a x.2.n x.2.c,.int .i64 x.1.left,.int .i64 x.1.right]
theorem Oz (x:Ar×SV):(Dl x).length=6:=rfl
theorem YL (x:Ar×SV):∀ u∈Dl x,u.oneCell'=true:=by simp [Dl,Value.oneCell']
def OA (x:Ar×SV):Ar×Value:=(x.1,.slice x.2.a x.2.n x.2.c)
def OB:Value->SV
 | .slice a n c=>⟨a,n,c⟩
 | _=>⟨none,0,0⟩
theorem aeL (l:List (Ar×SV)):(l.map OA).flatMap F8=l.flatMap Dl:=by rw [List.flatMap_map];rfl
theorem Ea.sv {w:World} {al:List (Ar×Value)} (h:Ea w al):∃ bl:List (Ar×SV),al=bl.map OA:=by
 refine ⟨al.map fun x=>(x.1,OB x.2),?_⟩;rw [List.map_map];have:∀ x∈al,(OA ∘ fun x:Ar×Value=>(x.1,OB x.2)) x=x:=fun x hx=>by
  obtain ⟨k,hk,rfl⟩:=List.mem_iff_getElem.1 hx;obtain ⟨A,c,hv,-⟩:=h k hk
  show (al[k].1,Value.slice (OB al[k].2).a (OB al[k].2).n (OB al[k].2).c)=al[k]
  rw [Prod.ext_iff];exact ⟨rfl,by rw [hv];rfl⟩
 exact (List.map_id al).symm.trans (List.map_congr_left fun x hx=>(this x hx).symm)
theorem amJ {α:Type} (f:α->List Value) (n:Nat) (hn:∀ a,(f a).length=n) (l:List α) (i:Nat) (hi:i<l.length) (y:α) (m:Nat) (hm:m<l.length*n) :
  ((l.set i y).flatMap f)[m]? = if m / n=i then (f y)[m % n]? else (l.flatMap f)[m]? := by
 have hn0:0<n:=by
  rcases Nat.eq_zero_or_pos n with h0 | h0
  · subst h0;omega
  · exact h0
 have h1:m / n<l.length:=Nat.div_lt_of_lt_mul (by rw [Nat.mul_comm];exact hm);have h2:m % n<n:=Nat.mod_lt _ hn0;have e1:=flat_get f n hn (l.set i y) (m / n) (m % n) (by simpa using h1) h2;have e2:=flat_get f n hn l (m / n) (m % n) h1 h2;rw [Nat.div_add_mod'] at e1 e2;rw [e1,e2,List.getElem_set];by_cases e:i=m / n
 · rw [if_pos e,if_pos e.symm]
 · rw [if_neg e,if_neg (fun h=>e h.symm)]
set_option maxRecDepth 100000 in
set_option maxHeartbeats 1000000 in
theorem amK (x y:Int) (w:World) (h:sF x) (hy:0<y):Calls Tryz.prog 203 #[.int .i64 x,.int .i64 y] w fun e w'=>e=.returned (.tuple #[.int .i64 (uT x y),.int .i64 0])/\w=w':=by
 have HC:=Lib.hid (fun w=>aiT x y w h (by omega));have hbd:=abJ (b:=y) h (by omega);obtain ⟨⟨b1,b2⟩,b3,b4⟩:=hbd;have k1:IntKind.i64.wrap (x.tdiv y)=x.tdiv y:=IntWalk.i64_in _ (by omega);have k2:IntKind.i64.wrap (x.tmod y)=x.tmod y:=IntWalk.i64_in _ (by omega);have k3:¬ y=0:=by omega
 have k4:IntKind.i64.wrap (x.tdiv y+1)=x.tdiv y+1:=IntWalk.i64_in _ (by omega);have k5:decide (y<0)=false:=by simp;omega
 obtain ⟨r,hr⟩:∃ r,uT x y=r:=⟨_,rfl⟩;rw [hr];rw [aiX hy] at hr;have Hr:=Lib.hid hr;clear hr hy h b1 b2 b3 b4;by_cases h0:x.tmod y=0
 ·have e0:(x.tmod y != 0)=false:=by simp [h0]
  have hf:=Hr.out;rw [if_neg (fun e=>e.1 h0)] at hf;have HF:=Lib.hid hf;clear hf h0 k5;go_enter Tryz.func203,Tryz.ntmps203;go_wp2_with fail;refine (HC.out _).mono ?_;rintro e w1 ⟨rfl,rfl⟩;go_wp2_with fail;go_ret2;exact ⟨by rw [<- HF.out];rfl,rfl⟩
 ·have e0:(x.tmod y != 0)=true:=by simp [h0]
  by_cases h1:x.tmod y<0
  ·have hf:=Hr.out;rw [if_neg (fun e=>e.2 h1)] at hf;have HF:=Lib.hid hf;have e1:(decide (x.tmod y<0) == decide (y<0))=false:=by rw [k5,decide_eq_true h1];rfl
   clear hf h0 h1 k5;go_enter Tryz.func203,Tryz.ntmps203;go_wp2_with fail;refine (HC.out _).mono ?_;rintro e w1 ⟨rfl,rfl⟩;go_wp2_with fail;go_ret2;exact ⟨by rw [<- HF.out];rfl,rfl⟩
  ·have hf:=Hr.out;rw [if_pos ⟨h0,h1⟩] at hf;have HF:=Lib.hid hf;have e1:(decide (x.tmod y<0) == decide (y<0))=true:=by rw [k5,decide_eq_false h1];rfl
   clear hf h0 h1 k5;go_enter Tryz.func203,Tryz.ntmps203;go_wp2_with fail;refine (HC.out _).mono ?_;rintro e w1 ⟨rfl,rfl⟩;go_wp2_with fail;go_ret2;exact ⟨by rw [<- HF.out];rfl,rfl⟩
def gK (r:Rn):List Value:=[.int .i64 r.lo,.int .i64 r.hi]
theorem BF (r:Rn):(gK r).length=2:=rfl
theorem Dn (r:Rn):∀ u∈gK r,u.oneCell'=true:=by simp [gK,Value.oneCell']
theorem Dp:Elem Tryz.prog 124 121 2 16:=Elem.rZ (z:=.agg #[.int .i64 0,.int .i64 0]) (by kernel_rfl) (by kernel_rfl) rfl (by omega)
set_option maxRecDepth 100000 in
set_option maxHeartbeats 1000000 in
theorem amL (s t:Rn) (w:World):Calls Tryz.prog 277 #[.agg #[.int .i64 s.lo,.int .i64 s.hi],.agg #[.int .i64 t.lo,.int .i64 t.hi]] w fun e w'=>e=.returned (.int .i64 (lN s.lo t.lo))/\nI w w':=by
 go_enter Tryz.func277,Tryz.ntmps277;go_wp2_with fail;refine (Nv s.lo t.lo _).mono ?_;rintro e w1 ⟨rfl,hb1,hd1⟩;have HB1:=Lib.hid (bT (bA (bA (bR w) _) _) hb1);have HD1:=Lib.hid (dT (dA (dA (dR w) _) _) hd1);clear hb1 hd1;go_wp2_with fail;go_ret;exact ⟨rfl,HB1.out,HD1.out⟩
structure BG (w:World) (B g:Nat) (l:List Rn) (v:Value):Prop where
 box:aj w g 124 #[v]
 own:Own w B 121 2 gK v l
theorem BG.keep {w w':World} {B g:Nat} {l:List Rn} {v:Value} (h:BG w B g l v) (hb:Below w.heap.size w w'):BG w' B g l v:=⟨h.box.keep hb,h.own.keep hb⟩
open Go.RowKit Go.Sort
theorem amM:∀ w,(isAgg 121).run Tryz.prog w=.ok true w:=fun _=>by kernel_rfl
theorem amN:∀ w,(Go.sizeOf 121).run Tryz.prog w=.ok 2 w:=fun _=>by kernel_rfl
def amO (w:World) (base:Nat) (v:Value) (sl:List Rn) (e:Ending) (w':World):Prop :=
 e=.returned (.tuple #[])/\∃ sl':List Rn,sl'.Perm sl/\sl'.Pairwise (fun a b=>ltOf (fun x y:Rn=>lN x.lo y.lo) b a=false)/\Own w' base 121 2 gK v sl'/\w.grownBy w' v.ownBlock
theorem amP (base:Nat) (v:Value) (sl:List Rn) (w:World) (hown:Own w base 121 2 gK v sl) (hn:sl.length<=4294967296) :
  Calls Tryz.prog 276 #[v,.func (.func 277) #[] #[]] w (amO w base v sl):=by
 rcases sl with _ | ⟨s0,rest⟩
 ·have hv:∃ p cap,v=.slice p 0 cap:=by
   rcases hown.2 with ⟨h,_⟩ | ⟨g,cap,cur,h,_⟩
   · exact ⟨_,_,h⟩
   · exact ⟨_,_,h⟩
  obtain ⟨p,cap,rfl⟩:=hv;refine Calls.mono (AnyF.slices_SortFunc_none Tryz.sortRn p cap (.func (.func 277) #[] #[]) w) ?_;rintro e w' ⟨rfl,rfl⟩;exact ⟨rfl,[],List.Perm.refl _,List.Pairwise.nil,hown,World.grownBy.refl _ _⟩
 generalize hsl:s0::rest=sl at *;have hs0:s0∈sl:=by rw [<- hsl];simp
 have hpos:0<sl.length:=by rw [<- hsl];simp
 obtain ⟨hlen,hown2⟩:=hown;rcases hown2 with ⟨_,h0⟩ | ⟨g,cap,cur,rfl,hg,hh,hnc,hcm,hcs,hx⟩
 · omega
 haveI hI:Inhabited {s:Rn // s=s}:=⟨⟨s0,rfl⟩⟩
 have hdl:∃ dl:List {s:Rn // s=s},dl.map (·.1)=sl:=⟨sl.attachWith (fun s=>s=s) (fun _ _=>rfl),by simp⟩;obtain ⟨dl,hdl⟩:=hdl;have hdn:dl.length=sl.length:=by rw [<- hdl];simp
 have hfm:dl.flatMap (fun x=>gK x.1)=sl.flatMap gK:=by rw [<- hdl,List.flatMap_map]
 have hcur:∀ j,j<sl.length*2->cur[j]? = (sl.flatMap gK)[j]? := fun j hj=>by
  rw [<- hx,List.getElem?_take,if_pos hj];simp
 have eg:∀ args w,(callFunc 277 args).run Tryz.prog w=.ok (.enter 277 args) w:=enters_of Tryz.func277 (by kernel_rfl) rfl;have hkk:∀ x:{s:Rn // s=s},(gK x.1).length=2:=fun _=>rfl;have hcmp:CmpLays Tryz.prog 277 #[] (fun x:{s:Rn // s=s}=>gK x.1) 2 (fun x y=>(fun x y:Rn=>lN x.lo y.lo) x.1 y.1) g 0 dl.toArray.size w:=fun m os dk hdk x y=>by
  have hg':=EG (fun x:{s:Rn // s=s}=>gK x.1) 2 w g 0 m dk os;exact (amL x.1 y.1 _).mono fun e w' h=>⟨h.1,NC h.2⟩
 have hsz:dl.toArray.size*2=sl.length*2:=by simp [hdn]
 have hH:HoldsK (fun x:{s:Rn // s=s}=>gK x.1) 2 w g 0 dl.toArray:=fun j hj=>by
  rw [size_flatK,hsz] at hj;refine ⟨?_,aj.frozen (t:=121) (cs:=cur) hh _⟩;rw [cell_of_row w g _ cur 121 (0,0) hh,Nat.zero_add,hcur j hj,EH _ 2 hkk _ j (by rw [hsz];exact hj)];simp only [id];rw [hfm,List.getElem!_eq_getElem?_getD]
  have:j<(sl.flatMap gK).length:=by rw [hlen];exact hj
  rw [List.getElem?_eq_getElem this];rfl
 have hcon:=AnyQ.slices_SortFunc Tryz.sortRn 2 amM amN (fun x:{s:Rn // s=s}=>gK x.1) hkk (fun x=>Dn x.1) (fun x y=>(fun x y:Rn=>lN x.lo y.lo) x.1 y.1) (Xc fun x:{s:Rn // s=s}=>x.1.lo) 277 #[] g 0 cap dl.toArray w eg hcmp hH (aj.lt hh) (by simp;omega);have hns:dl.toArray.size=sl.length:=by simp [hdn]
 rw [hns] at hcon;refine Calls.mono hcon ?_;rintro e w' ⟨rfl,d',n,os,hp,hs,rfl⟩;obtain ⟨p1,-,p3⟩:=hp;have hd':d'.size=sl.length:=by rw [p1,hns]
 have hperm:d'.toList.Perm dl:=by
  have e1:d'.extract 0 sl.length=d':=by rw [<- hd'];simp
  have e2:dl.toArray.extract 0 sl.length=dl.toArray:=by rw [<- hns];simp
  rw [e1,e2] at p3;simpa using p3
 have hg':=EG (fun x:{s:Rn // s=s}=>gK x.1) 2 w g 0 n d' os;refine ⟨rfl,d'.toList.map (·.1),by rw [<- hdl];exact hperm.map _,?_,?_,hg'⟩
 ·rw [List.pairwise_map,List.pairwise_iff_getElem];intro i j hi hj hij;have hj':j<d'.size:=by simpa using hj
  have:=hs i j (Nat.zero_le _) hij (by rw [<- hd'];exact hj')
  rw [getElem!_pos d' j hj',getElem!_pos d' i (by omega)] at this;exact this
 ·have hl':(d'.toList.map (·.1)).length=sl.length:=by simp [hd']
  unfold Own;rw [hl'];have hfd:(d'.toList.map (·.1)).flatMap gK=d'.toList.flatMap (fun x=>gK x.1):=by rw [List.flatMap_map]
  have hln:((d'.toList.map (·.1)).flatMap gK).length=sl.length*2:=by rw [flat_length gK 2 BF,hl']
  refine ⟨hln,.inr ⟨g,cap,putCells id 0 (flatK (fun x:{s:Rn // s=s}=>gK x.1) 2 d') cur,rfl,hg,?_,hnc,hcm,by simp [putCells,hcs],?_⟩⟩
  ·have hgl:g<w.heap.size:=aj.lt hh;rw [JR,Array.getElem?_append_left (by simpa using hgl),Array.getElem?_modify,if_pos rfl,hh];rfl
  ·apply List.ext_getElem?;intro j;rw [List.getElem?_take];by_cases hj:j<sl.length*2
   ·rw [if_pos hj,hfd];have hjc:j<cur.size:=by rw [hcs];have:=Nat.mul_le_mul_right 2 hnc;omega
    have hjd:j<d'.size*2:=by rw [hd'];exact hj
    have e1:(putCells id 0 (flatK (fun x:{s:Rn // s=s}=>gK x.1) 2 d') cur).toList[j]? = some (flatK (fun x:{s:Rn // s=s}=>gK x.1) 2 d')[j]! := by
     simp [putCells,hjc,hjd]
    rw [e1,EH _ 2 hkk _ j hjd,List.getElem!_eq_getElem?_getD]
    have:j<(d'.toList.flatMap fun x=>gK x.1).length:=by rw [<- hfd,hln];exact hj
    rw [List.getElem?_eq_getElem this];rfl
   · rw [if_neg hj,List.getElem?_eq_none (by rw [hln];omega)]
theorem amQ {P:Program} (w:World) (base:Nat) (t ty e:TypeId) (i:TypeInfo) (size:Nat) (ht:P.underlying t=some (.slice e)) (hi:P.info? e=some i) (hsize:i.size=size) (hsz:0<size)
  (v:Value) (n:Nat) (xs:List Value) (hown:w.ownsRow base e size v n xs) (src:Value) (news:List Value) (hs:Sl w src n news) (hl:news.length=n*size) (h1:∀ u∈news,u.oneCell'=true) :
  ∃ w',(Builtin.copy_ #[t,t] ty #[v,src]).run P w=.ok (goInt n) w'/\w'.ownsRow base e size v n news/\w.grownBy w' v.ownBlock:=by
 obtain ⟨A,c,rfl,-,-,hr⟩:=hs;have hlz:∀ (x:Addr),(loadCells x 0).run P w=.ok #[] w:=fun x=>by simpa using run_loadCells_list (P:=P) w x [] (by simp)
 have zero:n=0->∀ d cap,v=.slice d 0 cap->∃ w',(Builtin.copy_ #[t,t] ty #[v,.slice A n c]).run P w=.ok (goInt n) w'/\w'.ownsRow base e size v n news/\w.grownBy w' v.ownBlock:=by
  intro hn d cap hv;subst hn;have hnews:news=[]:=List.eq_nil_of_length_eq_zero (by simpa using hl);subst hnews;have hxs:xs=[]:=List.eq_nil_of_length_eq_zero (by have:=hown.1;simpa using this);subst hxs;refine ⟨w,?_,hown,World.grownBy.refl _ _⟩;rw [hv]
  cases d<;>cases A<;>simp [Builtin.copy_,run_underlying ht,Builtin.lenOf,Builtin.firstCells,sizeOf,typeInfo,hi,storeCells,hlz]
 rcases hown.2 with ⟨rfl,h0⟩ | ⟨g,cap,cur,rfl,hg,hh,hnc,hcm,hcs,hx⟩
 · exact zero h0 none 0 rfl
 ·rcases Nat.eq_zero_or_pos n with h0 | h0
  · subst h0;exact zero rfl _ _ rfl
  ·have hne:news≠[]:=fun e0=>by
    rw [e0] at hl;have:=Nat.mul_pos h0 hsz
    simp at hl;omega
   obtain ⟨b,o,rfl,-,hc⟩:=hr hne;have hsrc:∀ j u,news[j]? = some u->w.cell? ((⟨b,o,none⟩:Addr).add j)=some u:=fun j u hu=>Row.at0 (xs:=news) (fun _=>⟨b,o,rfl,by
    obtain ⟨b',o',e',hb',-⟩:=hr hne;injection e' with e';injection e' with e1 _ _;subst e1;exact hb',hc⟩) j u hu
   have hfit:0+news.length<=cur.size:=by rw [hl,hcs,Nat.zero_add];exact Nat.mul_le_mul_right _ hnc
   have hld:=run_loadCells_list (P:=P) w ⟨b,o,none⟩ news hsrc;have hst:=run_storeCells_at P g 0 e news 0 cur w hh (by simpa using hfit) h1;refine ⟨w.setRow g (cur.toList.take 0++news++cur.toList.drop (0+news.length)).toArray,?_,?_,?_⟩
   ·have hmul:n*i.size=news.length:=by rw [hl,hsize]
    simp [Builtin.copy_,run_underlying ht,Builtin.lenOf,Builtin.firstCells,sizeOf,typeInfo,hi,hmul,hld,hst]
   ·refine ⟨hl,.inr ⟨g,cap,_,rfl,hg,setRow_heap w g cur _ e _ hh,hnc,hcm,?_,?_⟩⟩
    ·simp;omega
    · simp [<- hl]
   · exact ⟨rfl,rfl,rfl,by simp [World.setRow],fun k hk hne=>setRow_other w g k _ (fun e=>hne (by rw [e];rfl))⟩
theorem amR {P:Program} (w:World) {ops:Array Oper} {rest:List Oper} {o:Oper} {a:Act} {Q:Exit->Act->World->Prop} (hgd:o.guard=none) (s x:Operand) (t:TypeId)
  (ho:o.op=.call {callee:=.builtin .copy,args:=#[s,x],argTypes:=#[t,t]})
  {α:Type} {f:α->List Value} {base:Nat} {e:TypeId} {size bytes:Nat} (hE:Elem P t e size bytes) (hf:∀ a,(f a).length=size) (hone:∀ a,∀ u∈f a,u.oneCell'=true)
  {v:Value} {n:Nat} {xs:List Value} (hs:a.eval s=v) (hown:w.ownsRow base e size v n xs)
  {src:Value} {l:List α} (hn:n=l.length) (hx:a.eval x=src) (hr:Sl w src l.length (l.flatMap f))
  (h:∀ w',Own w' base e size f v l->w.grownBy w' v.ownBlock->wpList P ops Q rest (a.put o.dst (goInt l.length)) w'):wpList P ops Q (o::rest) a w:=by
 subst hn;obtain ⟨ht,i,z,hi,hz,hsize,hby,hzs,hsz⟩:=hE;refine wpList_plain hgd fun K hK=>?_;obtain ⟨w',hrun,h2,h3⟩:=amQ (P:=P) w base t o.type e i size ht hi hsize hsz v l.length xs hown src (l.flatMap f) hr (flat_length f size hf l) (fun u hu=>by
  obtain ⟨a,_,hu⟩:=List.mem_flatMap.1 hu;exact hone a u hu)
 unfold Oper.wp execOp;simp only [ho,resolve,invoke,builtin,Sem.run_bind,Sem.run_pure,Result.andThen_ok,List.map_toArray,List.map_cons,List.map_nil,hs,hx,hrun];exact hK _ _ (h w' h2 h3)
theorem gS {w0 w1:World} {g:Nat} (h:w0.grownBy w1 (some g)) (i:Nat) (u:Value):w0.grownBy (w1.setCell ⟨g,i,none⟩ u) (some g):=by
 refine gT h ⟨rfl,rfl,rfl,?_,fun j _ hne=>?_⟩
 · simp
 · exact Below.heap_setCell w1 ⟨g,i,none⟩ u j (fun e=>hne (by rw [e]))
theorem Own.KH {α:Type} {w:World} {base g n c i j:Nat} {e:TypeId} {size:Nat} {f:α->List Value} (hf:∀ a,(f a).length=size) {l:List α} (h:Own w base e size f (.slice (some ⟨g,0,none⟩) n c) l) (hi:i<l.length) (hj:j<size) (y:α) (u:Value) (hy:f y=(f l[i]).set j u) :
  Own (w.setCell ⟨g,i*size+j,none⟩ u) base e size f (.slice (some ⟨g,0,none⟩) n c) (l.set i y):=by
 obtain ⟨h1,h2⟩:=h;rcases h2 with ⟨hv,h0⟩ | ⟨g',cap,cur,hv,hg,hh,hnc,hcm,hcs,hx⟩
 · cases hv
 ·injection hv with e1 e2 e3;injection e1 with e1;injection e1 with e1 _ _;subst e1 e3;have hl:(l.set i y).length=l.length:=by simp
  have hs0:0<size:=by omega
  refine ⟨by rw [flat_length f size hf],.inr ⟨g,c,_,by rw [hl,e2],hg,aj.fF hh (i*size+j) u,by rw [hl];exact hnc,hcm,by simpa using hcs,?_⟩⟩;apply List.ext_getElem?;intro m;rw [List.getElem?_take,hl];by_cases hm:m<l.length*size
  ·rw [if_pos hm,amJ f size hf l i hi y m hm];have hcur:(l.flatMap f)[m]? = cur[m]? := by
    rw [<- hx,List.getElem?_take,if_pos hm];simp
   have hmc:m<cur.size:=by rw [hcs];have:=Nat.mul_le_mul_right size hnc;omega
   have hdm:=Nat.div_add_mod m size;have hml:=Nat.mod_lt m hs0;rw [hcur];simp only [Array.getElem?_toList,Array.getElem?_setIfInBounds,Array.size_setIfInBounds];by_cases BH:m / size=i
   ·rw [if_pos BH,hy,List.getElem?_set];have hm2:m=i*size+m % size:=by rw [<- BH,Nat.mul_comm];omega
    by_cases hmj:j=m % size
    ·rw [if_pos hmj,if_pos (show j<(f l[i]).length by rw [hf];exact hj),if_pos (show i*size+j=m by omega)]
     first | rw [if_pos hmc] | rw [if_pos (show i*size+j<cur.size by omega)]
    ·rw [if_neg hmj,if_neg (by omega)];have e2:=flat_get f size hf l i (m % size) hi hml;rw [<- hm2] at e2;rw [<- e2,hcur]
   · rw [if_neg BH,if_neg (fun e=>BH (by rw [<- e,Nat.mul_comm,Nat.mul_add_div hs0,Nat.div_eq_of_lt hj];rfl))]
  · rw [if_neg hm,List.getElem?_eq_none (by rw [flat_length f size hf,hl];omega)]
open Go.RowKit Go.Sort
def Ii (w:World) (v:Value) (l:List Rn):Prop:=Sl w v l.length (l.flatMap gK)
theorem Ii.mono {w w':World} {v:Value} {l:List Rn} (h:Ii w v l) (hb:Below w.heap.size w w'):Ii w' v l:=Sl.mono h hb
theorem Row.rn {w:World} {A:Option Addr} {l:List Rn} (h:Row w A (l.flatMap gK)) {k:Nat} (hk:k<l.length) :
  ∃ b o,A=some ⟨b,o,none⟩/\b<w.heap.size/\w.cell? ⟨b,o+k*2,none⟩=some (.int .i64 l[k].lo)/\w.cell? ⟨b,o+k*2+1,none⟩=some (.int .i64 l[k].hi):=by
 obtain ⟨b,o,hA,hb,hc⟩:=h.at_ (n:=2) (fun _=>rfl) hk (by omega);exact ⟨b,o,hA,hb,hc 0 _ rfl,hc 1 _ rfl⟩
theorem Own.aeM {α:Type} {f:α->List Value} {w:World} {base:Nat} {e:TypeId} {size:Nat} {A:Option Addr} {n c:Nat} {l:List α} (h:Own w base e size f (.slice A n c) l):Row w A (l.flatMap f):=by
 obtain ⟨A',c',he,-,-,hr⟩:=h.sl;injection he with e1 e2 e3;subst e1;exact hr
theorem Own.Ij {w:World} {B:Nat} {A:Option Addr} {n c:Nat} {L:List Rn} (h:Own w B 121 2 gK (.slice A n c) L) (hl:0<L.length):∃ g,A=some ⟨g,0,none⟩/\B<=g/\g<w.heap.size/\(∀ j,w.frozen? ⟨g,j,none⟩=false) /\
  ∀ k (hk:k<L.length),w.cell? ⟨g,k*2,none⟩=some (.int .i64 L[k].lo)/\w.cell? ⟨g,k*2+1,none⟩=some (.int .i64 L[k].hi):=by
 have hr:=h.aeM;rcases h.2 with ⟨_,h0⟩ | ⟨g,cap,cur,hv,hg,hh,-⟩
 · omega
 ·injection hv with e1 e2 e3;subst e1;refine ⟨g,rfl,hg,aj.lt hh,fun j=>aj.frozen hh j,fun k hk=>?_⟩;obtain ⟨b,o,iH,-,c0,c1⟩:=Row.rn hr hk;injection iH with iH;injection iH with y1 y2 _;subst y1 y2;rw [Nat.zero_add] at c0 c1;exact ⟨c0,c1⟩
def YN (w:World) (l:List Rn) (e:Ending) (w':World):Prop:=∃ A c,e=.returned (.slice A l.length c)/\Own w' w.heap.size 121 2 gK (.slice A l.length c) l/\Below w.heap.size w w'
theorem amS (out:List Rn) (r:Rn):(wK out r).length<=out.length+1:=by
 unfold wK;split
 · omega
 ·split
  · rw [List.length_set];omega
  · simp
def pz (l:List Rn) (k:Nat):List Rn:=(l.take k).foldl wK []
theorem aeN {l:List Rn} {k:Nat} (hk:k<l.length):pz l (k+1)=wK (pz l k) l[k]:=by
 unfold pz;rw [List.take_succ_eq_append_getElem hk,List.foldl_append];rfl
theorem YP (l:List Rn):∀ k,(pz l k).length<=k
 | 0=>by simp [pz]
 | k+1=>by
  have ih:=YP l k;by_cases hk:k<l.length
  ·rw [aeN hk];have:=amS (pz l k) l[k]
   omega
  ·have:pz l (k+1)=pz l k:=by unfold pz;rw [List.take_of_length_le (by omega),List.take_of_length_le (by omega)]
   rw [this];omega
set_option maxRecDepth 100000 in
set_option maxHeartbeats 8000000 in
theorem aeO (v:Value) (l:List Rn) (w:World) (h:Ii w v l) (hl:l.length<=100000):Calls Tryz.prog 254 #[v] w (YN w (qW l)):=by
 have uo:=Lib.hid (@amP);have YQ:=Lib.hid (fun m (hp:m.Perm l) hs=>aiW (l:=l) (m:=m) hp hs);obtain ⟨A,c,rfl,hn1,hn2,hR⟩:=h;unfold maxLen at hn2;have HR:=Lib.hid (show Ii w (.slice A l.length c) l from ⟨A,c,rfl,hn1,by unfold maxLen;omega,hR⟩);obtain ⟨R,hRr⟩:∃ R,qW l=R:=⟨_,rfl⟩;rw [hRr] at YQ ⊢;clear hR hRr;go_enter Tryz.func254,Tryz.ntmps254;go_upto_region 2 with
  (at_make
   obtain ⟨ht_,i_,z_,hi_,hz_,aeP,aeQ,amT,amU⟩:=Dp;refine wpList_make_full _ rfl (.tmp 8) (.tmp 8) _ rfl w.heap.size _ i_ z_ 2 ht_ hi_ hz_ aeP .i64 .i64 _ _ l.length rfl rfl rfl rfl (by rw [aeQ];omega) (dW (by omega)) (Nat.le_refl _) ?_;intro w1 ho1 hg1;have lS:=Lib.hid ho1;have HB1:=Lib.hid (bG (bR w) hg1 (fun k hk=>by cases hk));clear ho1 hg1 ht_ hi_ hz_ aeP aeQ amT amU)
 generalize (madeCells z_.cells (l.length*2)).toList=zs at *;go_upto_region 3 with
  (refine amR _ rfl (.tmp 10) (.tmp 11) _ rfl Dp BF Dn rfl lS.out (l:=l) rfl rfl (HR.out.mono HB1.out) ?_
   intro w2 ho2 hg2;have fM:=Lib.hid ho2;have HB2:=Lib.hid (bG HB1.out hg2 (fun k hk=>(lS.out.lt k hk).1));clear ho2 hg2)
 go_wp2_with fail;refine (uo.out w.heap.size _ l _ fM.out (by omega)).mono ?_;rintro e w3 ⟨rfl,m,hp,hs,ho3,hg3⟩;have hm:=YQ.out m hp (hs.imp (fun {a b} g=>by rw [JU (fun x:Rn=>x.lo),decide_eq_false_iff_not] at g;omega));have hml:m.length=l.length:=hp.length_eq;have HM:=Lib.hid hm;have HB3:=Lib.hid (bG HB2.out hg3 (fun k hk=>(fM.out.lt k hk).1));have hsl:=ho3.sl;rw [hml] at hsl;have yF:=Lib.hid hsl;have atg:m.length<=100000:=by omega
 have HLm:=Lib.hid hml;have hz3:=HB3.out.size;clear YQ uo HR lS HB1 fM HB2 hp hs ho3 hg3 hm hsl hml;go_upto_block 0 with fail;go_wp2_with fail;go_loopw [2,17] (fun s i wr=>∃ k:Nat,k<=l.length/\i=.int .i64 k/\(∃ A c,s=.slice A (pz m k).length c)/\Own wr w3.heap.size 121 2 gK s (pz m k)/\Below w3.heap.size w3 wr) (fun _ i _=>l.length-(intOf i).toNat)
 case atStart => exact ⟨0,Nat.zero_le _,rfl,⟨none,0,rfl⟩,Own.nil _ _ _ _ _,bR w3⟩
 case round =>
  obtain ⟨k,hk,rfl,⟨A',c',rfl⟩,ho,hb⟩:=hrel;obtain ⟨wo,rfl⟩:∃ wo:World,wo=wr:=⟨_,rfl⟩;have HO:=Lib.hid ho;have HB:=Lib.hid hb;have Oq:=hb.size;clear ho hb;by_cases hlt:k<l.length
  ·have hkm:k<m.length:=by have:=HLm.out;omega
   have hsu:=aeN hkm;have Ik:=YP m k;obtain ⟨A3,c3,he3,-,-,hR3⟩:=yF.out.mono HB.out;injection he3 with y1 y2 y3;subst y1;clear y2 y3;obtain ⟨b,o,iH,hlb,c0,c1⟩:=Row.rn hR3 hkm;injection iH with iH;injection iH with y1 y2 _;subst y1 y2;simp only [Nat.zero_add] at c0 c1;generalize m[k]=r at *;obtain ⟨Q,hQ⟩:∃ Q,pz m k=Q:=⟨_,rfl⟩;rw [hQ] at HO hsu Ik ⊢;have Fb:=Lib.hid hsu;have HQe:=Lib.hid hQ;have k1:(k:Int)<l.length:=by omega
   have k2:0<=(k:Int):=by omega
   clear hsu hQ hR3;by_cases e1:r.hi<=r.lo
   ·have hq:pz m (k+1)=Q:=by rw [Fb.out];unfold wK;rw [if_pos e1]
    have uG:=Lib.hid hq;have OC:=Lib.hid (bA HB.out (.cells #[.int .i64 r.lo,.int .i64 r.hi] 121));have S9:=Lib.hid (Own.alloc HO.out (.cells #[.int .i64 r.lo,.int .i64 r.hi] 121));clear hq;go_wp2_with fail;go_roundw
    case rel => exact ⟨k+1,by omega,by go_num,⟨A',c',by rw [uG.out]⟩,by rw [uG.out];exact S9.out,OC.out⟩
    case measure => simp [intOf];omega
   ·have hn1:IntKind.i64.wrap ((Q.length:Int)-1)=(Q.length:Int)-1:=IntWalk.i64_in _ (by omega);go_upto_region 10 with fail;obtain ⟨W2,hW2⟩:∃ W:World,W=wo.alloc (.cells #[.int .i64 r.lo,.int .i64 r.hi] 121):=⟨_,rfl⟩;have hA1:Below wo.heap.size wo W2:=by rw [hW2];exact bA (bR wo) _
    obtain ⟨g5,hg5⟩:∃ g5,wo.heap.size=g5:=⟨_,rfl⟩;have X5:aj W2 g5 121 #[.int .i64 r.lo,.int .i64 r.hi]:=by rw [hW2];exact aj.made hg5.symm _ _
    have fM:=Lib.hid (HO.out.keep hA1);have HB2:=Lib.hid (bT HB.out hA1);have bK:=Lib.hid X5;have hgl:=fun q hq=>(HO.out.lt q hq).2;rw [<- hW2]
    try rw [hg5]
    clear hW2 hA1 c0 c1 hlb HO HB;obtain ⟨dF,dG,dI,-,-⟩:=X5.bI;rcases Nat.eq_zero_or_pos Q.length with h0 | h0
    ·have hq:pz m (k+1)=Q++[r]:=by rw [Fb.out,List.eq_nil_of_length_eq_zero h0];unfold wK;rw [if_neg e1,if_neg (by simp)]
     have uG:=Lib.hid hq;have kq:¬ (1:Int)<=(Q.length:Int):=by omega
     clear h0 hq hn1;refine bZ (Since W2) (.run 13 0 0 (.done)) (by kernel_rfl) (bD (bR _)) (by kernel_rfl) (by kernel_rfl) (Nat.le_of_ble_eq_true (by kernel_rfl)) ?_;intro cO QR ak aC hS
     iterate 3
      apply bg;exact ak;exact rfl;exact hS;exact rfl
      · intro _ hqc;go_simp;try rfl
      try simp only [pu]
     iterate 8
      refine qH ak rfl hS rfl rfl rfl rfl rfl ?_
      try simp only [pu]
     iterate 2
      apply bg;exact ak;exact rfl;exact hS;exact rfl
      · intro _ hqc;go_simp;try rfl
      try simp only [pu]
     refine bM ?_;refine aC.down _ _ ?_;have hB:Below W2.heap.size W2 W2.drew:=hS;clear hS aC ak;obtain ⟨W3,hW3⟩:∃ W:World,W=W2.drew:=⟨_,rfl⟩;rw [<- hW3] at hB ⊢;have fE:=Lib.hid (fM.out.keep hB);have Il:=Lib.hid (bT HB2.out hB);have jL:=Lib.hid (bK.out.keep hB);clear hB hW3 X5 dF dG dI bK fM HB2;have hsh:(Q++[r]).length=Q.length+1:=by simp
     have eu:=Lib.hid hsh;have X5:=jL.out;clear hsh
     try clear dF
     try clear dG
     try clear dI
     obtain ⟨dF,dG,dI,-,-⟩:=X5.bI;go_wp2_with
      (at_builtin
       refine jH _ rfl (.tmp 24) (.tmp 26) _ rfl (base:=w3.heap.size) Dp BF Dn rfl (Own.alloc fE.out _) rfl (l2:=[r]) (Sl.lit (n:=1) (aj.made rfl _ _) rfl (dW (by omega))) (by simp only [List.length_cons,List.length_nil];omega) (by simp only [List.length_cons,List.length_nil];omega) (by have:=Il.out.size;simp;omega) ?_;intro v4 w4 BI hg4 YR;obtain ⟨A4,c4,hv4,-⟩:=BI.sl;rw [eu.out] at hv4;subst hv4;have sZ:=Lib.hid BI;have HB4:=Lib.hid (bG (bA Il.out _) hg4 (fun g hg=>(fE.out.lt g hg).1));clear BI hg4 YR
       )
     go_roundw
     case rel => exact ⟨k+1,by omega,by go_num,⟨A4,c4,by rw [uG.out,eu.out]⟩,by rw [uG.out];exact sZ.out,HB4.out⟩
     case measure => simp [intOf];omega
    ·obtain ⟨n,hn⟩:∃ n,Q.length=n+1:=⟨Q.length-1,by omega⟩;have hnl:n<Q.length:=by omega
     have hq1:(Q.length:Int)-1=(n:Int):=by omega
     have hgd:Q.getD (Q.length-1) QH=Q[n]:=by
      rw [hn,List.getD_eq_getElem?_getD,show n+1-1=n by omega,List.getElem?_eq_getElem hnl];rfl
     have YS:Q.length-1=n:=by omega
     have hsu:=Fb.out;unfold wK at hsu;rw [if_neg e1,hgd,YS] at hsu;rw [hq1];obtain ⟨gQ,hgA,hgQ,ath,hfz,hce⟩:=Own.Ij fM.out h0;subst hgA;obtain ⟨d0,d1⟩:=hce n hnl;have hf1:=hfz (n*2+1);have kq:(0:Int)<=(n:Int):=by omega
     have kn:(n:Int)<(Q.length:Int):=by omega
     have hq5:¬ gQ=g5:=by
      have:=hgl gQ rfl
      omega
     obtain ⟨z,hz⟩:∃ z,Q[n]=z:=⟨_,rfl⟩;rw [hz] at d0 d1 hsu;by_cases e2:r.lo<=z.hi
     ·rw [if_pos ⟨h0,e2⟩] at hsu;have uG:=Lib.hid hsu;have HZ:=Lib.hid hz;clear hsu hgd YS hn hce hfz hz h0 hn1;refine bZ (Since W2) (.run 13 0 0 (.done)) (by kernel_rfl) (bD (bR _)) (by kernel_rfl) (by kernel_rfl) (Nat.le_of_ble_eq_true (by kernel_rfl)) ?_;intro cO QR ak aC hS
      iterate 3
       apply bg;exact ak;exact rfl;exact hS;exact rfl
       · intro _ hqc;go_simp;try rfl
       try simp only [pu]
      iterate 8
       apply dY;exact ak;exact rfl;exact hS;iterate 4 exact rfl
       · intro _ hqc;go_simp;try rfl
       try simp only [pu]
      iterate 2
       apply bg;exact ak;exact rfl;exact hS;exact rfl
       · intro _ hqc;go_simp;try rfl
       try simp only [pu]
      refine bM ?_;refine aC.down _ _ ?_;have hB:Below W2.heap.size W2 W2.drew:=hS;clear hS aC ak;obtain ⟨W3,hW3⟩:∃ W:World,W=W2.drew:=⟨_,rfl⟩;rw [<- hW3] at hB ⊢;have fE:=Lib.hid (fM.out.keep hB);have Il:=Lib.hid (bT HB2.out hB);have jL:=Lib.hid (bK.out.keep hB);clear hB hW3 X5 dF dG dI bK fM HB2 d0 d1 hf1;obtain ⟨g',hgA,-,ati,aeR,aeS⟩:=Own.Ij fE.out (by omega);injection hgA with hgA;injection hgA with hgA _ _;subst hgA;obtain ⟨-,d1⟩:=aeS n hnl;rw [HZ.out] at d1;have hf1:=aeR (n*2+1);obtain ⟨mx,hmx⟩:∃ mx:Int,mx=max z.hi r.hi:=⟨_,rfl⟩;have hset:=Own.KH BF fE.out hnl (j:=1) (by omega) ⟨z.lo,mx⟩ (.int .i64 mx) (by rw [HZ.out];rfl);have YT:=Lib.hid (show Own (W3.setCell ⟨gQ,n*2+1,none⟩ (.int .i64 mx)).drew w3.heap.size 121 2 gK (.slice (some ⟨gQ,0,none⟩) Q.length c') (Q.set n ⟨z.lo,mx⟩) from hset);have KI:=Lib.hid (bD (bS (p:=⟨gQ,n*2+1,none⟩) Il.out hgQ (.int .i64 mx)));have hq:=uG.out;rw [<- hmx] at hq;have KJ:=Lib.hid hq;have Hmx:=Lib.hid hmx;have X5:=jL.out;clear hset hmx hq aeS aeR uG
      try clear dF
      try clear dG
      try clear dI
      obtain ⟨dF,dG,dI,-,-⟩:=X5.bI;have nq5:¬ some g5=some gQ:=fun e=>hq5 (Option.some.inj e).symm;go_upto_region 11 with fail;refine bZ (ji W3 (some gQ)) (.run 6 0 0 (.take 7 191 (.take 8 447 (.call 6 511 (.run 3 9 511 (.call 12 8191 (.done))))))) (by kernel_rfl) (gD (gR _ _)) (by kernel_rfl) (by kernel_rfl) (Nat.le_of_ble_eq_true (by kernel_rfl)) ?_;intro cO QR ak aC hS
      iterate 8
       apply jI;exact ak;exact rfl;exact hS;exact rfl
       · intro _ hqc;go_simp;try rfl
       try simp only [pu]
      refine aT (i:=6) (aG ak rfl) (fun K hK=>?_);have aA:=Lib.hid hS;clear hS;refine aO (aV rfl) ?_;go_simp;refine hK.out _ _ aA.out (fun hS=>?_);clear hK K aA
      try simp only [pu]
      iterate 3
       apply jI;exact ak;exact rfl;exact hS;exact rfl
       · intro _ hqc;go_simp;try rfl
       try simp only [pu]
      refine aT (i:=12) (aG ak rfl) (fun K hK=>?_);have aA:=Lib.hid hS;clear hS;refine aO (aV rfl) ?_;go_simp;refine hK.out _ _ (by first | exact gS aA.out _ _ | (unfold ji;have uH:World.grownBy _ _ _:=aA.out;repeat (first | with_reducible assumption | with_reducible exact World.grownBy.refl _ _ | with_reducible refine gS ?_ _ _ | with_reducible refine gD ?_ | with_reducible refine gA ?_ _))) (fun hS=>?_);clear hK K aA
      try simp only [pu]
      refine bM ?_;refine aC.down _ _ ?_;have hB:W3.grownBy _ (some gQ):=hS;clear hS aC ak;rw [<- Hmx.out];go_wp2_with fail;go_roundw
      case rel => exact ⟨k+1,by omega,by go_num,⟨some ⟨gQ,0,none⟩,c',by rw [KJ.out,List.length_set]⟩,by rw [KJ.out];exact YT.out,KI.out⟩
      case measure => simp [intOf];omega
     ·rw [if_neg (fun g=>e2 g.2)] at hsu;have uG:=Lib.hid hsu;clear hsu hgd YS hn hce hfz hz h0 hn1;refine bZ (Since W2) (.run 13 0 0 (.done)) (by kernel_rfl) (bD (bR _)) (by kernel_rfl) (by kernel_rfl) (Nat.le_of_ble_eq_true (by kernel_rfl)) ?_;intro cO QR ak aC hS
      iterate 3
       apply bg;exact ak;exact rfl;exact hS;exact rfl
       · intro _ hqc;go_simp;try rfl
       try simp only [pu]
      iterate 8
       apply dY;exact ak;exact rfl;exact hS;iterate 4 exact rfl
       · intro _ hqc;go_simp;try rfl
       try simp only [pu]
      iterate 2
       apply bg;exact ak;exact rfl;exact hS;exact rfl
       · intro _ hqc;go_simp;try rfl
       try simp only [pu]
      refine bM ?_;refine aC.down _ _ ?_;have hB:Below W2.heap.size W2 W2.drew:=hS;clear hS aC ak;obtain ⟨W3,hW3⟩:∃ W:World,W=W2.drew:=⟨_,rfl⟩;rw [<- hW3] at hB ⊢;have fE:=Lib.hid (fM.out.keep hB);have Il:=Lib.hid (bT HB2.out hB);have jL:=Lib.hid (bK.out.keep hB);clear hB hW3 X5 dF dG dI bK fM HB2;have hsh:(Q++[r]).length=Q.length+1:=by simp
      have eu:=Lib.hid hsh;have X5:=jL.out;clear hsh
      try clear dF
      try clear dG
      try clear dI
      obtain ⟨dF,dG,dI,-,-⟩:=X5.bI;go_wp2_with
       (at_builtin
        refine jH _ rfl (.tmp 24) (.tmp 26) _ rfl (base:=w3.heap.size) Dp BF Dn rfl (Own.alloc fE.out _) rfl (l2:=[r]) (Sl.lit (n:=1) (aj.made rfl _ _) rfl (dW (by omega))) (by simp only [List.length_cons,List.length_nil];omega) (by simp only [List.length_cons,List.length_nil];omega) (by have:=Il.out.size;simp;omega) ?_;intro v4 w4 BI hg4 YR;obtain ⟨A4,c4,hv4,-⟩:=BI.sl;rw [eu.out] at hv4;subst hv4;have sZ:=Lib.hid BI;have HB4:=Lib.hid (bG (bA Il.out _) hg4 (fun g hg=>(fE.out.lt g hg).1));clear BI hg4 YR
        )
      go_roundw
      case rel => exact ⟨k+1,by omega,by go_num,⟨A4,c4,by rw [uG.out,eu.out]⟩,by rw [uG.out];exact sZ.out,HB4.out⟩
      case measure => simp [intOf];omega
  ·have hkk:pz m k=R:=by
    have:=HLm.out
    rw [<- HM.out];unfold pz Gq;rw [List.take_of_length_le (by omega)]
   have KL:=Lib.hid (show Own wo w.heap.size 121 2 gK (.slice A' (pz m k).length c') (pz m k) from HO.out.iW hz3);rw [hkk] at KL;generalize pz m k=Q at *;subst hkk;clear HO;go_wp2_with fail;go_ret;exact ⟨A',c',rfl,KL.out,bT HB3.out HB.out⟩
structure zI (w w':World) (g:Nat) (r:Option Nat):Prop where
 size:w.heap.size<=w'.heap.size
 blk:∀ g1,g1<w.heap.size->g1≠g->r≠some g1->w'.heap[g1]? = w.heap[g1]?
theorem zI.refl (w:World) (g:Nat) (r:Option Nat):zI w w g r:=⟨Nat.le_refl _,fun _ _ _ _=>rfl⟩
theorem zI.keep {w w':World} {g:Nat} {r:Option Nat} (h:zI w w' g r) {g1:Nat} {t:TypeId} {cs:Array Value} (hb:aj w g1 t cs) (h1:g1≠g) (h2:r≠some g1):aj w' g1 t cs:=(h.blk g1 hb.lt h1 h2).trans hb
theorem zI.own {w w':World} {g:Nat} {r:Option Nat} (h:zI w w' g r) {α:Type} {B:Nat} {e:TypeId} {n:Nat} {f:α->List Value} {v:Value} {l:List α} (ho:Own w B e n f v l) (h1:v.ownBlock≠some g) (h2:∀ k,v.ownBlock=some k->r≠some k):Own w' B e n f v l:=by
 obtain ⟨h0,h3⟩:=ho;refine ⟨h0,?_⟩;rcases h3 with h3 | ⟨q,cap,cur,rfl,a1,a2,a3⟩
 · exact .inl h3
 · exact .inr ⟨q,cap,cur,rfl,a1,zI.keep h (cs:=cur) a2 (fun e=>h1 (by rw [e];rfl)) (h2 q rfl),a3⟩
def NewAt (w:World) (v v':Value):Prop:=v'.ownBlock=v.ownBlock\/∃ k,v'.ownBlock=some k/\w.heap.size<=k
set_option maxRecDepth 100000 in
set_option maxHeartbeats 1000000 in
theorem amV (lo hi:Int) (B g:Nat) (l:List Rn) (v:Value) (w:World) (h:BG w B g l v) (hB:B<=w.heap.size) (hl:l.length<=4000000000) :
  Calls Tryz.prog 253 #[.int .i64 lo,.int .i64 hi,.pointer (some ⟨g,0,none⟩)] w fun e w'=>e=.returned (.tuple #[])/\(∃ v',BG w' B g (l++jU lo hi) v'/\NewAt w v v')/\zI w w' g v.ownBlock/\∀ w0:World,Below w0.heap.size w0 w->w0.heap.size<=B->w0.heap.size<=g->Below w0.heap.size w0 w':=by
 obtain ⟨X4,own⟩:=h;obtain ⟨A,c,rfl,-⟩:=Own.sl own;have dn:=Lib.hid X4;have HO:=Lib.hid own;have n4:=Own.dM own X4 (by decide);clear own;unfold jU;by_cases hlt:lo<hi
 ·rw [if_pos hlt];obtain ⟨cZ,dh,eG⟩:=X4.fB;go_enter Tryz.func253,Tryz.ntmps253;have hsh:(l++[(⟨lo,hi⟩:Rn)]).length=l.length+1:=by simp
  have eu:=Lib.hid hsh;clear hsh;go_wp2_with
   (at_builtin
    refine jH _ rfl (.tmp 8) (.tmp 12) _ rfl (base:=B) Dp BF Dn rfl (Own.alloc HO.out _) rfl (l2:=[(⟨lo,hi⟩:Rn)]) (Sl.lit (n:=1) (aj.made rfl _ _) rfl (dW (by omega))) (by simp only [List.length_cons,List.length_nil];omega) (by simp only [List.length_cons,List.length_nil];omega) (by simp;omega) ?_;intro v3 w3 ho3 hg3 lY;obtain ⟨A3,c3,hv3,-⟩:=ho3.sl;rw [eu.out] at hv3;subst hv3;have fE:=Lib.hid ho3;have rO:=aj.grown (dn.out.alloc _) hg3 (fun e=>n4 e.symm);have amW:=Lib.hid rO;have HN3:=Lib.hid (Own.dM ho3 rO (by decide));have HAt:=Lib.hid (show NewAt w (.slice A l.length c) (.slice A3 (l.length+1) c3) from lY.imp id (fun e=>⟨_,e,by simp⟩));have HK:=Lib.hid (show zI w (w3.setCell ⟨g,0,none⟩ (.slice A3 (l.length+1) c3)) g (Value.slice A l.length c).ownBlock from ⟨by have:=hg3.size;simp at this;simp;omega,fun g1 h1 h2 h3=>by
     have h4:=hg3.block g1 (by simp;omega) (fun e=>h3 e.symm);rw [Below.heap_setCell w3 ⟨g,0,none⟩ _ g1 h2,h4];exact Below.heap_alloc w _ g1 h1⟩)
    have HB3:=Lib.hid (show ∀ w0:World,Below w0.heap.size w0 w->w0.heap.size<=B->w0.heap.size<=g->Below w0.heap.size w0 (w3.setCell ⟨g,0,none⟩ (.slice A3 (l.length+1) c3)) from fun w0 h1 h2 h3=>bS (p:=⟨g,0,none⟩) (bG (bA h1 _) hg3 (fun k hk=>Nat.le_trans h2 (HO.out.lt k hk).1)) h3 _);clear ho3 hg3 lY X4 cZ dh eG;obtain ⟨Fe,Fg,Fh⟩:=rO.fB
    )
  have HF:=Lib.hid (show BG (w3.setCell ⟨g,0,none⟩ (.slice A3 (l.length+1) c3)) B g (l++[(⟨lo,hi⟩:Rn)]) (.slice A3 (l.length+1) c3) from ⟨amW.out.fF 0 _,fE.out.far HN3.out _⟩);exact bodyPost_end (v:=.tuple #[]) (results_none rfl _ _ _) rfl ⟨rfl,⟨_,HF.out,HAt.out⟩,HK.out,HB3.out⟩
 ·rw [if_neg hlt,List.append_nil];go_enter Tryz.func253,Tryz.ntmps253;go_wp2_with fail;exact bodyPost_end (v:=.tuple #[]) (results_none rfl _ _ _) rfl ⟨rfl,⟨_,⟨dn.out,HO.out⟩,.inl rfl⟩,zI.refl _ _ _,fun w0 h1 _ _=>h1⟩
set_option linter.unusedSectionVars false
def kX (a b:Int):Bool:=decide (gV a<gV b) || (decide (gV a=gV b) && decide (b<a))
theorem Fj {a b:Int}:kX a b=true↔gV a<gV b\/(gV a=gV b/\b<a):=by unfold kX;simp
theorem amX (a:Int):kX a a=false:=by rw [<- Bool.not_eq_true,Fj];omega
theorem amY {a b:Int} (h1:kX a b=false) (h2:kX b a=false):a=b:=by
 rw [<- Bool.not_eq_true,Fj] at h1 h2;unfold gV at *;split at h1<;>split at h1<;>simp_all<;>omega
theorem aeT {a b c:Int} (h1:kX a b=true) (h2:kX b c=true):kX a c=true:=by
 rw [Fj] at *;omega
theorem amZ {a b:Int} (h1:kX a b=true):kX b a=false:=by
 rw [<- Bool.not_eq_true];intro h2;rw [Fj] at h1 h2;omega
def zJ (k d:Int):Int:=if kX d k then d else k
def yG (c:List Int) (n:Nat):Int:=(c.take n).foldl zJ (c.headD 0)
def eU (c:List Int):Int:=c.foldl zJ (c.headD 0)
theorem am0 {c:List Int} {n:Nat} (hn:n<c.length):yG c (n+1)=zJ (yG c n) c[n]:=by
 unfold yG;rw [List.take_succ_eq_append_getElem hn,List.foldl_append];rfl
theorem am1 (c:List Int):yG c c.length=eU c:=by unfold yG eU;rw [List.take_length]
theorem YU:∀ (l:List Int) (k:Int),l.foldl zJ k=k\/l.foldl zJ k∈l
 | [],k=>.inl rfl
 | d::l,k=>by
  rw [List.foldl_cons];rcases YU l (zJ k d) with h | h
  ·rw [h];unfold zJ;split
   · exact .inr List.mem_cons_self
   · exact .inl rfl
  · exact .inr (List.mem_cons_of_mem _ h)
theorem Tc {c:List Int} (h:c≠[]):eU c∈c:=by
 rcases YU c (c.headD 0) with e | e
 ·unfold eU;rw [e]
  cases c with
  | nil=>exact absurd rfl h
  | cons a c=>exact List.mem_cons_self
 · exact e
def Fp (X:List Int) (l:List (List Int)):List (List Int):=l.takeWhile (fun Y=>!kX (eU X) (eU Y))++X::l.dropWhile (fun Y=>!kX (eU X) (eU Y))
def sortK (l:List (List Int)):List (List Int):=l.foldl (fun acc X=>Fp X acc) []
def zK (X Y:List Int):Bool:=kX (eU X) (eU Y)
theorem am2 (X:List Int) (l:List (List Int)):(Fp X l).Perm (X::l):=by
 unfold Fp;refine List.perm_middle.trans ?_;rw [List.takeWhile_append_dropWhile]
theorem am3 {X:List Int} {l:List (List Int)} (h:l.Pairwise (fun a b=>zK b a=false)):(Fp X l).Pairwise (fun a b=>zK b a=false):=by
 unfold Fp;have hall:(l.takeWhile (fun Y=>!kX (eU X) (eU Y))++l.dropWhile (fun Y=>!kX (eU X) (eU Y)))=l:=List.takeWhile_append_dropWhile;have h1:∀ Y∈l.takeWhile (fun Y=>!kX (eU X) (eU Y)),kX (eU X) (eU Y)=false:=fun Y hY=>by
  have:=List.all_eq_true.1 (List.all_takeWhile (p:=fun Y=>!kX (eU X) (eU Y)) (l:=l)) Y hY
  simpa using this
 have h2:∀ Y∈l.dropWhile (fun Y=>!kX (eU X) (eU Y)),kX (eU Y) (eU X)=false:=by
  intro Y hY
  cases hd:l.dropWhile (fun Y=>!kX (eU X) (eU Y)) with
  | nil=>rw [hd] at hY;cases hY
  | cons Z m =>
   have hZ:kX (eU X) (eU Z)=true:=by
    have:=List.head_dropWhile_not (fun Y=>!kX (eU X) (eU Y)) (l:=l) (by rw [hd];simp)
    simp only [hd,List.head_cons] at this;simpa using this
   rw [hd] at hY;rcases List.mem_cons.1 hY with rfl | hY
   · exact amZ hZ
   ·have hp:(Z::m).Pairwise (fun a b=>zK b a=false):=by
     have:=h
     rw [<- hall,List.pairwise_append] at this;rw [<- hd];exact this.2.1
    have:=(List.pairwise_cons.1 hp).1 Y hY
    rw [<- Bool.not_eq_true];intro hc;have h3:=aeT hc hZ;unfold zK at this;rw [h3] at this
    cases this
 have hp:=h;rw [<- hall,List.pairwise_append] at hp;rw [List.pairwise_append,List.pairwise_cons];refine ⟨hp.1,⟨h2,hp.2.1⟩,fun a ha b hb=>?_⟩;rcases List.mem_cons.1 hb with rfl | hb
 · exact h1 a ha
 · exact hp.2.2 a ha b hb
theorem Io (l:List (List Int)):(sortK l).Perm l/\(sortK l).Pairwise (fun a b=>zK b a=false):=by
 have:∀ (l acc:List (List Int)),acc.Pairwise (fun a b=>zK b a=false)->(l.foldl (fun acc X=>Fp X acc) acc).Perm (acc++l)/\(l.foldl (fun acc X=>Fp X acc) acc).Pairwise (fun a b=>zK b a=false):=by
  intro l
  induction l with
  | nil=>intro acc h;exact ⟨by rw [List.append_nil];exact List.Perm.refl _,h⟩
  | cons X l ih =>
   intro acc h;rw [List.foldl_cons];obtain ⟨h1,h2⟩:=ih (Fp X acc) (am3 h);refine ⟨h1.trans ?_,h2⟩;exact ((am2 X acc).append_right l).trans (List.perm_middle (l₁:=acc) (l₂:=l) (a:=X)).symm
 have h:=this l [] List.Pairwise.nil;rw [List.nil_append] at h;exact h
section
variable {p:Pl} (h:Valid p)
include h
theorem Valid.am4 {X Y:List Int} (hX:X∈aY p) (hY:Y∈aY p) (h1:zK X Y=false) (h2:zK Y X=false):X=Y:=by
 obtain ⟨x,-,-,-,hx⟩:=h.o7 hX;obtain ⟨y,-,-,-,hy⟩:=h.o7 hY;have e:eU X=eU Y:=amY h1 h2;refine h.Oc hX hY (Tc (fun e=>by rw [e] at hx;cases hx)) ?_;rw [e];exact Tc (fun e=>by rw [e] at hy;cases hy)
theorem Valid.am5 {l:List (List Int)} (hl:l.Perm (aN p)) (hs:l.Pairwise (fun a b=>zK b a=false)):l=sortK (aN p):=by
 obtain ⟨h1,h2⟩:=Io (aN p);refine JY (lt:=zK) (hl.trans h1.symm) hs h2 fun a ha b hb g1 g2=>?_;have ma:=(kH.1 (hl.subset ha)).1;have mb:=(kH.1 (hl.subset hb)).1;exact h.am4 ma mb g1 g2
end
def lenV:Value->Nat
 | .slice _ n _=>n
 | _=>0
def xC (S:Int->Bool) (l:List Int) (x:Int):Bool:=S x || decide (x∈l)
theorem am6 (S:Int->Bool):xC S []=S:=by
 funext x;simp [xC]
theorem am7 (S:Int->Bool) (l:List Int) (y:Int):(fun i=>if i=y then true else xC S l i)=xC S (l++[y]):=by
 funext x
 unfold xC;by_cases e:x=y
 · subst e;simp
 · simp [e]
theorem am8 {f:Int->Int} {D:List Int} (hD:∀ x∈D,f x∈D) (hi:∀ x∈D,∀ y∈D,f x=f y->x=y) {x:Int} (hx:x∈D) {j:Nat} (hj:j<oJ f D x):pw f x j∉iter f x j/\pw f x j∈lT f D x:=by
 obtain ⟨-,-,-,-,h5,-⟩:=CU hD hi hx;constructor
 ·intro hm;obtain ⟨k,hk,e⟩:=yx.1 hm;unfold lT List.Nodup at h5;rw [List.pairwise_iff_getElem] at h5;have:=h5 k j (by rw [AY];omega) (by rw [AY];omega) hk
  rw [JZ,JZ] at this;exact this e
 · exact yx.2 ⟨j,hj,rfl⟩
theorem am9 {f:Int->Int} {D:List Int} (hD:∀ x∈D,f x∈D) (hi:∀ x∈D,∀ y∈D,f x=f y->x=y) {x:Int} (hx:x∈D):pw f x (oJ f D x)∈lT f D x:=by
 obtain ⟨h1,-,h3,-,-,-⟩:=CU hD hi hx;rw [h3];exact yx.2 ⟨0,h1,rfl⟩
def ana (w:World) (gm n:Nat) (S:Int->Bool) (l:List Int) (e:Ending) (w':World):Prop :=
 ∃ A c,e=.returned (.slice A l.length c)/\Own w' w.heap.size 3 1 dO (.slice A l.length c) l/\mG w' gm (n+l.length) (xC S l)/\w.grownBy w' (some gm)
theorem OD {w:World} {gm n:Nat} {f:Int->Bool} (h:mG w gm n f) {g:Nat} {t:TypeId} {cs:Array Value} (hg:aj w g t cs):g≠gm:=by
 rintro rfl;obtain ⟨D,h1,-⟩:=h;obtain ⟨es,clock,h2,-⟩:=h1;unfold aj at hg;rw [hg] at h2
 cases h2
theorem KN {w:World} {gm n:Nat} {f:Int->Bool} (h:mG w gm n f) {base:Nat} {e:TypeId} {size:Nat} {α:Type} {fe:α->List Value} {v:Value} {l:List α} (ho:Own w base e size fe v l):v.ownBlock≠some gm:=by
 rcases ho.2 with ⟨rfl,_⟩ | ⟨g,cap,cur,rfl,_,hh,_⟩
 · simp [Value.ownBlock]
 ·intro e';exact OD h (cs:=cur) (g:=g) hh (by simpa [Value.ownBlock] using e')
theorem Own.mY {α:Type} {w:World} {base:Nat} {e:TypeId} {size:Nat} {f:α->List Value} {v:Value} {l:List α} (h:Own w base e size f v l):∃ A c,v=.slice A l.length c/\l.length<=c/\c<=maxLen:=by
 obtain ⟨A,c,rfl,h1,h2,-⟩:=Own.sl h;exact ⟨A,c,rfl,h1,h2⟩
set_option maxRecDepth 100000 in
set_option maxHeartbeats 4000000 in
theorem anb (f:Int->Int) (D:List Int) (hD:∀ x∈D,f x∈D) (hi:∀ x∈D,∀ y∈D,f x=f y->x=y) (F:Int->Int) (hF:∀ x∈D,F x=f x) (hw:∀ x∈D,dP x) (hl:D.length<=100000) (S:Int->Bool) (d:Int) (hd:d∈D) (hS:∀ x∈lT f D d,S x=false)
  (gs gn gm gk n m:Nat) (w:World) (hn:n<=1000000) (h1:aj w gs 139 #[.map (some gm)]) (h2:aj w gn 96 #[.map (some gk)]) (hm:mG w gm n S) (hk:fQ w gk m F) (hne:gm≠gk) :
  Calls Tryz.prog 119 #[.int .i64 d,.pointer (some ⟨gs,0,none⟩),.pointer (some ⟨gn,0,none⟩)] w (ana w gm n S (lT f D d)):=by
 obtain ⟨o1,o2,o3,-,-,o6⟩:=CU hD hi hd;obtain ⟨q,hq⟩:∃ q,lT f D d=q:=⟨_,rfl⟩;have aeU:iter f d (oJ f D d)=q:=hq;have aeV:=Lib.hid (fun j (hj:j<oJ f D d)=>am8 hD hi hd hj);have yE:=Lib.hid (fun j=>CS (f:=f) hD hd j);have hend:=am9 hD hi hd;rw [hq] at o6 hS hend aeV ⊢;have HF:=Lib.hid hF;have HW:=Lib.hid hw;have HS:=Lib.hid hS;have anc:=Lib.hid hend;have HIt:=Lib.hid aeU;have HLq:=Lib.hid o6;clear hF hw hS hend aeU o6 o3 hD hi hq hd;generalize oJ f D d=N at *;have Hm0:=Lib.hid hm;have Hk0:=Lib.hid hk;have H1:=Lib.hid h1;have H2:=Lib.hid h2;have n1:=OD hm h1;have n2:=OD hm h2;have hlt1:=h1.lt;have hlt2:=h2.lt;have atj:=hm.lt;have hltk:=hk.lt;clear hm hk h1 h2;go_enter Tryz.func119,Tryz.ntmps119;go_wp2_with fail;go_loopw [0,4] (fun x s wr=>∃ j:Nat,j<=N/\x=.int .i64 (pw f d j)/\(∃ A c,s=.slice A j c)/\Own wr w.heap.size 3 1 dO s (iter f d j)/\mG wr gm (n+j) (xC S (iter f d j))/\w.grownBy wr (some gm)) (fun _ s _=>N-lenV s)
 case atStart => exact ⟨0,Nat.zero_le _,rfl,⟨none,0,rfl⟩,Own.nil _ _ _ _ _,by rw [show iter f d 0=[] from rfl,am6];exact Hm0.out,gR w _⟩
 case round =>
  obtain ⟨j,hj,rfl,⟨A,c,rfl⟩,own,mp,hg⟩:=hrel;have HO:=Lib.hid own;have HM:=Lib.hid mp;have HG:=Lib.hid hg;have X1:=H1.out.grow hg (fun e=>n1 (Option.some.inj e));have QO:w.heap.size<=wr.heap.size:=hg.size;clear own mp hg;obtain ⟨y,hy⟩:∃ y,pw f d j=y:=⟨_,rfl⟩;have hym:=yE.out j;have hy2:f y=pw f d (j+1):=by rw [<- hy];rfl
  have hFy:F y=pw f d (j+1):=by rw [<- hy2];exact HF.out y (hy ▸ hym)
  have hwy:dP y:=HW.out y (hy ▸ hym);have YV:=aeV.out j;have hlk:=HM.out.look y hwy;rw [hy] at YV ⊢;have HY:=Lib.hid hy;have HFy:=Lib.hid hFy;have HWy:=Lib.hid hwy;have HN:=Lib.hid YV;have YW:=Lib.hid (hy ▸ hym);clear hym hy2 hFy hwy YV;by_cases hlt:j<N
  ·have hsf:xC S (iter f d j) y=false:=by
    unfold xC;have h:=HN.out hlt;rw [HS.out y h.2];simpa using h.1
   rw [hsf] at hlk;obtain ⟨w3,hr3,oI,hg3⟩:=HM.out.upd (by omega) y HWy.out true;rw [am7] at oI;have hsn:iter f d j++[y]=iter f d (j+1):=by rw [adx,HY.out]
   rw [hsn] at oI;have lG:=Lib.hid oI;have Ip:=Lib.hid (gT HG.out hg3);have fE:=Lib.hid (Own.grown HO.out hg3 (fun g' hg' e=>KN HM.out HO.out (by rw [hg',e])));have hsz3:wr.heap.size<=w3.heap.size:=hg3.size;have OE:=Lib.hid hsn;clear hsf oI hg3 hsn hy;obtain ⟨aI,aJ,-⟩:=X1.fB;go_upto_region 3 with fail;clear hlk hr3 X1 aI aJ;go_upto_region 4 with
    (at_builtin
     refine jH _ rfl (.tmp 11) (.tmp 13) _ rfl (base:=w.heap.size) pV nH pW rfl (Own.alloc fE.out _) rfl (l2:=[y]) (Sl.lit (n:=1) (aj.made rfl _ _) rfl (dW (by omega))) (by simp only [AY,List.length_cons,List.length_nil];omega) (by simp only [AY,List.length_cons,List.length_nil];omega) (by simp;omega) ?_;intro v1 w1 ho1 hg1 BJ;rw [OE.out] at ho1;obtain ⟨A1,c1,hv1,-⟩:=Own.mY ho1;rw [AY] at hv1;subst hv1;have lS:=Lib.hid ho1;have hown:=fE.out.lt;have hG1:w.grownBy w1 (some gm):=⟨by rw [hg1.os];exact Ip.out.os,by rw [hg1.tape];exact Ip.out.tape,by rw [hg1.output];exact Ip.out.output,Nat.le_trans Ip.out.size (Nat.le_trans (by simp) hg1.size),fun i hi hne=>by
      rw [hg1.block i (by simp;have:=Ip.out.size;omega) (fun e=>by have:=(hown i e.symm).1;omega),<- Ip.out.block i hi hne];exact (bA (bR w3) (.cells #[.int .i64 y] 3)).block i (by have:=Ip.out.size;omega)⟩
     have YX:=Lib.hid hG1;have qw:=Lib.hid ((lG.out.keep (bA (bR w3) (.cells #[.int .i64 y] 3))).kept hg1 (fun e=>KN lG.out fE.out e.symm));clear ho1 hg1 BJ hG1 hown
     )
   have X2:=H2.out.grow YX.out (fun e=>n2 (Option.some.inj e));have hlk2:=(Hk0.out.kept YX.out (fun e=>hne (Option.some.inj e).symm)).look y HWy.out;rw [HFy.out] at hlk2;obtain ⟨gI,gJ,-⟩:=X2.fB;go_wp2_with fail;go_roundw
   case rel => exact ⟨j+1,by omega,rfl,⟨A1,c1,rfl⟩,lS.out,qw.out,YX.out⟩
   case measure => simp only [lenV];omega
  ·have hjN:j=N:=by omega
   subst hjN;have hst:xC S (iter f d j) y=true:=by
    unfold xC;have h:=anc.out;rw [HY.out,<- HIt.out] at h;simp [h]
   rw [hst] at hlk;clear hst
   try clear aI
   try clear aJ
   obtain ⟨aI,aJ,-⟩:=X1.fB;go_wp2_with fail;go_ret;rw [HIt.out] at HO HM;have hL:=HLq.out;have ho:=HO.out;have hm:=HM.out;subst hL;exact ⟨A,c,rfl,ho,hm,HG.out⟩
theorem Td (l:List Int) (j:Nat):(l.flatMap dO)[j]? = (l[j]?).map (.int .i64 ·):=by
 induction l generalizing j with
 | nil=>simp
 | cons a l ih =>
  rw [List.flatMap_cons]
  cases j with
  | zero=>rfl
  | succ j =>
   show (.int .i64 a::l.flatMap dO)[j+1]? = _
   rw [List.getElem?_cons_succ,ih,List.getElem?_cons_succ]
theorem Tf (l:List Int):(l.flatMap dO).length=l.length:=by
 have:=flat_length dO 1 nH l
 omega
def aeW (w:World) (base:Nat) (v:Value) (sl:List Int) (e:Ending) (w':World):Prop :=
 e=.returned (.tuple #[])/\Own w' base 3 1 dO v sl/\w.grownBy w' v.ownBlock
end Go.Proofs.YtialfdomhoojiaaGreat
