import Derived.Test.YtialfdomhoojiaaGreatPMinus
import Derived.Test.YtialfdomhoojiaaGreatLaySortRn
import Derived.Laws.CopyRow
import Derived.Laws.IdiomCopy
set_option linter.unusedSimpArgs false
set_option linter.unusedVariables false
set_option maxRecDepth 100000
set_option maxHeartbeats 8000000
namespace Go.Proofs.YtialfdomhoojiaaGreat
open Go.RowKit
theorem Gj {B:Nat} {W w:World} (hB:B<=W.heap.size) (h:Below B W w) (o:Obj):Below B W (w.alloc o):=h.alloc (Dn hB h.size) o
theorem MK {B b i:Nat} {W w:World} (h:Below B W w) (hb:B<=b) (u:Value):Below B W (w.setCell ⟨b,i,none⟩ u):=h.setCell (p:=⟨b,i,none⟩) hb u
def YU (x:Ar×SV):List Value:=[.int .i64 x.1.id,.int .i64 x.1.fr,.int .i64 x.1.dst,.slice x.2.a x.2.n x.2.c,.int .i64 x.1.left,.int .i64 x.1.right]
theorem yN (x:Ar×SV):(YU x).length=6:=rfl
theorem aeR (x:Ar×SV):∀ u∈YU x,u.oneCell'=true:=by simp [YU,Value.oneCell']
def yO (x:Ar×SV):Ar×Value:=(x.1,.slice x.2.a x.2.n x.2.c)
def yP:Value->SV
 | .slice a n c=>⟨a,n,c⟩
 | _=>⟨none,0,0⟩
theorem ain (l:List (Ar×SV)):(l.map yO).flatMap gW=l.flatMap YU:=by rw [P9];rfl
theorem aJ.sv {w:World} {al:List (Ar×Value)} (h:aJ w al):∃ bl:List (Ar×SV),al=bl.map yO:=by
 refine ⟨al.map fun x=>(x.1,yP x.2),?_⟩;rw [Mc];have:∀ x∈al,(yO ∘ fun x:Ar×Value=>(x.1,yP x.2)) x=x:=fun x hx=>by
  obtain ⟨k,hk,rfl⟩:=Dp.1 hx;obtain ⟨A,c,hv,-⟩:=h k hk
  show (al[k].1,Value.slice (yP al[k].2).a (yP al[k].2).n (yP al[k].2).c)=al[k]
  rw [Prod.ext_iff];exact ⟨rfl,by rw [hv];rfl⟩
 exact (List.map_id al).symm.trans (aay fun x hx=>(this x hx).symm)
theorem asP {α:Type} (f:α->List Value) (n:Nat) (hn:∀ a,(f a).length=n) (l:List α) (i:Nat) (hi:i<l.length) (y:α) (m:Nat) (hm:m<l.length*n) :
  ((l.set i y).flatMap f)[m]? = if m / n=i then (f y)[m % n]? else (l.flatMap f)[m]? := by
 have hn0:0<n:=by
  rcases VF n with h0 | h0
  · subst h0;omega
  · exact h0
 have h1:m / n<l.length:=ab4 (by rw [sJ];exact hm);have h2:m % n<n:=U7 _ hn0;have e1:=flat_get f n hn (l.set i y) (m / n) (m % n) (by simpa using h1) h2;have e2:=flat_get f n hn l (m / n) (m % n) h1 h2;rw [sK] at e1 e2;rw [e1,e2,QG];by_cases e:i=m / n
 · rw [AZ e,AZ e.symm]
 · rw [AX e,AX (fun h=>e h.symm)]
theorem asQ (x y:Int) (w:World) (h:YT x) (hy:0<y):Calls Tryz.prog 203 #[.int .i64 x,.int .i64 y] w fun e w'=>e=.returned (.tuple #[.int .i64 (SH x y),.int .i64 0])/\w=w':=by
 have HC:=AA (fun w=>asJ x y w h AB);have hbd:=asK (b:=y) h AB;obtain ⟨⟨b1,b2⟩,b3,b4⟩:=hbd;have k1:IntKind.i64.wrap (x.tdiv y)=x.tdiv y:=Ci _ AB;have k2:IntKind.i64.wrap (x.tmod y)=x.tmod y:=Ci _ AB;have k3:¬ y=0:=by omega
 have k4:IntKind.i64.wrap (x.tdiv y+1)=x.tdiv y+1:=Ci _ AB;have k5:decide (y<0)=false:=by simp;omega
 obtain ⟨r,hr⟩:=BL (SH x y);rw [hr];rw [asO hy] at hr;have Hr:=AA hr;clear hr hy h b1 b2 b3 b4;by_cases h0:x.tmod y=0
 ·have e0:(x.tmod y != 0)=false:=by simp [h0]
  have hf:=Hr.out;rw [AX (fun e=>e.1 h0)] at hf;have HF:=AA hf;clear hf h0 k5;go_enter Tryz.func203,Tryz.ntmps203;go_wp2_with fail;refine (HC.out _).mono ?_;rintro e w1 ⟨rfl,rfl⟩;go_wp2_with fail;go_ret2;exact ⟨by rw [<- HF.out];rfl,rfl⟩
 ·have e0:(x.tmod y != 0)=true:=by simp [h0]
  by_cases h1:x.tmod y<0
  ·have hf:=Hr.out;rw [AX (fun e=>e.2 h1)] at hf;have HF:=AA hf;have e1:(decide (x.tmod y<0) == decide (y<0))=false:=by rw [k5,JE h1];rfl
   clear hf h0 h1 k5;go_enter Tryz.func203,Tryz.ntmps203;go_wp2_with fail;refine (HC.out _).mono ?_;rintro e w1 ⟨rfl,rfl⟩;go_wp2_with fail;go_ret2;exact ⟨by rw [<- HF.out];rfl,rfl⟩
  ·have hf:=Hr.out;rw [AZ ⟨h0,h1⟩] at hf;have HF:=AA hf;have e1:(decide (x.tmod y<0) == decide (y<0))=true:=by rw [k5,G8 h1];rfl
   clear hf h0 h1 k5;go_enter Tryz.func203,Tryz.ntmps203;go_wp2_with fail;refine (HC.out _).mono ?_;rintro e w1 ⟨rfl,rfl⟩;go_wp2_with fail;go_ret2;exact ⟨by rw [<- HF.out];rfl,rfl⟩
def G9 (r:Rn):List Value:=[.int .i64 r.lo,.int .i64 r.hi]
theorem Xo (r:Rn):(G9 r).length=2:=rfl
theorem YV (r:Rn):∀ u∈G9 r,u.oneCell'=true:=by simp [G9,Value.oneCell']
theorem YW:Elem Tryz.prog 124 121 2 16:=Elem.Po (z:=.agg #[.int .i64 0,.int .i64 0]) FC FC rfl AB
theorem asR (s t:Rn) (w:World):Calls Tryz.prog 277 #[.agg #[.int .i64 s.lo,.int .i64 s.hi],.agg #[.int .i64 t.lo,.int .i64 t.hi]] w fun e w'=>e=.returned (.int .i64 (KC s.lo t.lo))/\NZ w w':=by
 go_enter Tryz.func277,Tryz.ntmps277;go_wp2_with fail;refine (uh s.lo t.lo _).mono ?_;rintro e w1 ⟨rfl,hb1,hd1⟩;have HB1:=AA (bT (bA (bA (bR w) _) _) hb1);have HD1:=AA (dT (dA (dA (dR w) _) _) hd1);clear hb1 hd1;go_wp2;go_ret;exact ⟨rfl,HB1.out,HD1.out⟩
structure Xp (w:World) (B g:Nat) (l:List Rn) (v:Value):Prop where
 box:AO w g 124 #[v]
 own:Own w B 121 2 G9 v l
theorem Xp.keep {w w':World} {B g:Nat} {l:List Rn} {v:Value} (h:Xp w B g l v) (hb:AP w w'):Xp w' B g l v:=⟨h.box.keep hb,h.own.keep hb⟩
open Go.RowKit Go.Sort
theorem asT:∀ w,(isAgg 121).run Tryz.prog w=.ok true w:=fun _=>by kernel_rfl
theorem asU:∀ w,(Go.sizeOf 121).run Tryz.prog w=.ok 2 w:=fun _=>by kernel_rfl
def asV (w:World) (base:Nat) (v:Value) (sl:List Rn) (e:Ending) (w':World):Prop :=
 e=.returned (.tuple #[])/\∃ sl':List Rn,sl'.Perm sl/\sl'.Pairwise (fun a b=>ltOf (fun x y:Rn=>KC x.lo y.lo) b a=false)/\Own w' base 121 2 G9 v sl'/\w.grownBy w' v.ownBlock
theorem asW (base:Nat) (v:Value) (sl:List Rn) (w:World) (hown:Own w base 121 2 G9 v sl) (hn:sl.length<=4294967296) :
  Calls Tryz.prog 276 #[v,.func (.func 277) #[] #[]] w (asV w base v sl):=by
 rcases sl with _ | ⟨s0,rest⟩
 ·have hv:∃ p cap,v=.slice p 0 cap:=by
   rcases hown.2 with ⟨h,_⟩ | ⟨g,cap,cur,h,_⟩
   · exact ⟨_,_,h⟩
   · exact ⟨_,_,h⟩
  obtain ⟨p,cap,rfl⟩:=hv;refine Calls.mono (AnyF.slices_SortFunc_none Tryz.sortRn p cap (.func (.func 277) #[] #[]) w) ?_;rintro e w' ⟨rfl,rfl⟩;exact ⟨rfl,[],List.Perm.refl _,List.Pairwise.nil,hown,World.grownBy.refl _ _⟩
 generalize hsl:s0::rest=sl at *;have hs0:s0∈sl:=by rw [<- hsl];simp
 have hpos:0<sl.length:=by rw [<- hsl];simp
 obtain ⟨hlen,hown2⟩:=hown;rcases hown2 with ⟨_,h0⟩ | ⟨g,cap,cur,rfl,hg,hh,hnc,hcm,hcs,hx⟩
 · omega
 haveI hI:Inhabited {s:Rn // s=s}:=⟨⟨s0,rfl⟩⟩
 have hdl:∃ dl:List {s:Rn // s=s},dl.map (·.1)=sl:=⟨sl.attachWith (fun s=>s=s) (fun _ _=>rfl),Aw⟩;obtain ⟨dl,hdl⟩:=hdl;have hdn:dl.length=sl.length:=by rw [<- hdl];simp
 have hfm:dl.flatMap (fun x=>G9 x.1)=sl.flatMap G9:=by rw [<- hdl,P9]
 have hcur:∀ j,j<sl.length*2->cur[j]? = (sl.flatMap G9)[j]? := fun j hj=>by
  rw [<- hx,List.getElem?_take,AZ hj];simp
 have eg:∀ args w,(callFunc 277 args).run Tryz.prog w=.ok (.enter 277 args) w:=enters_of Tryz.func277 FC rfl;have hkk:∀ x:{s:Rn // s=s},(G9 x.1).length=2:=fun _=>rfl;have hcmp:CmpLays Tryz.prog 277 #[] (fun x:{s:Rn // s=s}=>G9 x.1) 2 (fun x y=>(fun x y:Rn=>KC x.lo y.lo) x.1 y.1) g 0 dl.toArray.size w:=fun m os dk hdk x y=>by
  have hg':=dJ (fun x:{s:Rn // s=s}=>G9 x.1) 2 w g 0 m dk os;exact (asR x.1 y.1 _).mono fun e w' h=>⟨h.1,uq h.2⟩
 have hsz:dl.toArray.size*2=sl.length*2:=by simp [hdn]
 have hH:HoldsK (fun x:{s:Rn // s=s}=>G9 x.1) 2 w g 0 dl.toArray:=fun j hj=>by
  rw [size_flatK,hsz] at hj;refine ⟨?_,AO.frozen (t:=121) (cs:=cur) hh _⟩;rw [cell_of_row w g _ cur 121 (0,0) hh,QC,hcur j hj,dK _ 2 hkk _ j (by rw [hsz];exact hj)];simp only [id];rw [hfm,List.getElem!_eq_getElem?_getD]
  have:j<(sl.flatMap G9).length:=by rw [hlen];exact hj
  rw [DK this];rfl
 have hcon:=AnyQ.slices_SortFunc Tryz.sortRn 2 asT asU (fun x:{s:Rn // s=s}=>G9 x.1) hkk (fun x=>YV x.1) (fun x y=>(fun x y:Rn=>KC x.lo y.lo) x.1 y.1) (adL fun x:{s:Rn // s=s}=>x.1.lo) 277 #[] g 0 cap dl.toArray w eg hcmp hH (AO.lt hh) DC;have hns:dl.toArray.size=sl.length:=by simp [hdn]
 rw [hns] at hcon;refine Calls.mono hcon ?_;rintro e w' ⟨rfl,d',n,os,hp,hs,rfl⟩;obtain ⟨p1,-,p3⟩:=hp;have hd':d'.size=sl.length:=by rw [p1,hns]
 have hperm:d'.toList.Perm dl:=by
  have e1:d'.extract 0 sl.length=d':=by rw [<- hd'];simp
  have e2:dl.toArray.extract 0 sl.length=dl.toArray:=by rw [<- hns];simp
  rw [e1,e2] at p3;simpa using p3
 have hg':=dJ (fun x:{s:Rn // s=s}=>G9 x.1) 2 w g 0 n d' os;refine ⟨rfl,d'.toList.map (·.1),by rw [<- hdl];exact hperm.map _,?_,?_,hg'⟩
 ·rw [IL,Fe];intro i j hi hj hij;have hj':j<d'.size:=by simpa using hj
  have:=hs i j (BZ _) hij (by rw [<- hd'];exact hj')
  rw [getElem!_pos d' j hj',getElem!_pos d' i AB] at this;exact this
 ·have hl':(d'.toList.map (·.1)).length=sl.length:=by simp [hd']
  unfold Own;rw [hl'];have hfd:(d'.toList.map (·.1)).flatMap G9=d'.toList.flatMap (fun x=>G9 x.1):=by rw [P9]
  have hln:((d'.toList.map (·.1)).flatMap G9).length=sl.length*2:=by rw [flat_length G9 2 Xo,hl']
  refine ⟨hln,.inr ⟨g,cap,putCells id 0 (flatK (fun x:{s:Rn // s=s}=>G9 x.1) 2 d') cur,rfl,hg,?_,hnc,hcm,tH,?_⟩⟩
  ·have hgl:g<w.heap.size:=AO.lt hh;rw [nD,Array.getElem?_append_left (by simpa using hgl),Array.getElem?_modify,AZ rfl,hh];rfl
  ·apply lK;intro j;rw [List.getElem?_take];by_cases hj:j<sl.length*2
   ·rw [AZ hj,hfd];have hjc:j<cur.size:=by rw [hcs];have:=lM 2 hnc;omega
    have hjd:j<d'.size*2:=by rw [hd'];exact hj
    have e1:(putCells id 0 (flatK (fun x:{s:Rn // s=s}=>G9 x.1) 2 d') cur).toList[j]? = some (flatK (fun x:{s:Rn // s=s}=>G9 x.1) 2 d')[j]! := by
     simp [putCells,hjc,hjd]
    rw [e1,dK _ 2 hkk _ j hjd,List.getElem!_eq_getElem?_getD]
    have:j<(d'.toList.flatMap fun x=>G9 x.1).length:=by rw [<- hfd,hln];exact hj
    rw [DK this];rfl
   · rw [AX hj,Y0 (by rw [hln];omega)]
theorem asX {P:Program} (w:World) (base:Nat) (t ty e:TypeId) (i:TypeInfo) (size:Nat) (ht:P.underlying t=some (.slice e)) (hi:P.info? e=some i) (hsize:i.size=size) (hsz:0<size)
  (v:Value) (n:Nat) (xs:List Value) (hown:w.ownsRow base e size v n xs) (src:Value) (news:List Value) (hs:Sl w src n news) (hl:news.length=n*size) (h1:∀ u∈news,u.oneCell'=true) :
  ∃ w',(Builtin.copy_ #[t,t] ty #[v,src]).run P w=.ok (goInt n) w'/\w'.ownsRow base e size v n news/\w.grownBy w' v.ownBlock:=by
 obtain ⟨A,c,rfl,-,-,hr⟩:=hs;have hlz:∀ (x:Addr),(loadCells x 0).run P w=.ok #[] w:=fun x=>by simpa using run_loadCells_list (P:=P) w x [] Aw
 have zero:n=0->∀ d cap,v=.slice d 0 cap->∃ w',(Builtin.copy_ #[t,t] ty #[v,.slice A n c]).run P w=.ok (goInt n) w'/\w'.ownsRow base e size v n news/\w.grownBy w' v.ownBlock:=by
  intro hn d cap hv;subst hn;have hnews:news=[]:=lQ (by simpa using hl);subst hnews;have hxs:xs=[]:=lQ (by have:=hown.1;simpa using this);subst hxs;refine ⟨w,?_,hown,World.grownBy.refl _ _⟩;rw [hv]
  cases d<;>cases A<;>simp [Builtin.copy_,run_underlying ht,Builtin.lenOf,Builtin.firstCells,sizeOf,typeInfo,hi,storeCells,hlz]
 rcases hown.2 with ⟨rfl,h0⟩ | ⟨g,cap,cur,rfl,hg,hh,hnc,hcm,hcs,hx⟩
 · exact zero h0 none 0 rfl
 ·rcases VF n with h0 | h0
  · subst h0;exact zero rfl _ _ rfl
  ·have hne:news≠[]:=fun e0=>by
    rw [e0] at hl;have:=Nat.mul_pos h0 hsz
    simp at hl;omega
   obtain ⟨b,o,rfl,-,hc⟩:=hr hne;have hsrc:∀ j u,news[j]? = some u->w.cell? ((⟨b,o,none⟩:Addr).add j)=some u:=fun j u hu=>Row.at0 (xs:=news) (fun _=>⟨b,o,rfl,by
    obtain ⟨b',o',e',hb',-⟩:=hr hne;injection e' with e';injection e' with e1 _ _;subst e1;exact hb',hc⟩) j u hu
   have hfit:0+news.length<=cur.size:=by rw [hl,hcs,QC];exact lM _ hnc
   have hld:=run_loadCells_list (P:=P) w ⟨b,o,none⟩ news hsrc;have hst:=run_storeCells_at P g 0 e news 0 cur w hh (by simpa using hfit) h1;refine ⟨w.setRow g (cur.toList.take 0++news++cur.toList.drop (0+news.length)).toArray,?_,?_,?_⟩
   ·have hmul:n*i.size=news.length:=by rw [hl,hsize]
    simp [Builtin.copy_,run_underlying ht,Builtin.lenOf,Builtin.firstCells,sizeOf,typeInfo,hi,hmul,hld,hst]
   ·refine ⟨hl,.inr ⟨g,cap,_,rfl,hg,setRow_heap w g cur _ e _ hh,hnc,hcm,?_,?_⟩⟩
    ·simp;omega
    · simp [<- hl]
   · exact ⟨rfl,rfl,rfl,by simp [World.setRow],fun k hk hne=>setRow_other w g k _ (fun e=>hne Y8)⟩
theorem asY {P:Program} (w:World) {ops:Array Oper} {rest:List Oper} {o:Oper} {a:Act} {Q:Exit->Act->World->Prop} (hgd:o.guard=none) (s x:Operand) (t:TypeId)
  (ho:o.op=.call {callee:=.builtin .copy,args:=#[s,x],argTypes:=#[t,t]})
  {α:Type} {f:α->List Value} {base:Nat} {e:TypeId} {size bytes:Nat} (hE:Elem P t e size bytes) (hf:∀ a,(f a).length=size) (hone:∀ a,∀ u∈f a,u.oneCell'=true)
  {v:Value} {n:Nat} {xs:List Value} (hs:a.eval s=v) (hown:w.ownsRow base e size v n xs)
  {src:Value} {l:List α} (hn:n=l.length) (hx:a.eval x=src) (hr:Sl w src l.length (l.flatMap f))
  (h:∀ w',Own w' base e size f v l->w.grownBy w' v.ownBlock->wpList P ops Q rest (a.put o.dst (goInt l.length)) w'):wpList P ops Q (o::rest) a w:=by
 subst hn;obtain ⟨ht,i,z,hi,hz,hsize,hby,hzs,hsz⟩:=hE;refine wpList_plain hgd fun K hK=>?_;obtain ⟨w',hrun,h2,h3⟩:=asX (P:=P) w base t o.type e i size ht hi hsize hsz v l.length xs hown src (l.flatMap f) hr (flat_length f size hf l) (fun u hu=>by
  obtain ⟨a,_,hu⟩:=GY.1 hu;exact hone a u hu)
 unfold Oper.wp execOp;simp only [ho,resolve,invoke,builtin,Sem.run_bind,Sem.run_pure,Result.andThen_ok,List.map_toArray,Ez,QE,hs,hx,hrun];exact hK _ _ (h w' h2 h3)
theorem gS {w0 w1:World} {g:Nat} (h:w0.grownBy w1 (some g)) (i:Nat) (u:Value):w0.grownBy (w1.setCell ⟨g,i,none⟩ u) (some g):=by
 refine gT h ⟨rfl,rfl,rfl,?_,fun j _ hne=>?_⟩
 · simp
 · exact Below.heap_setCell w1 ⟨g,i,none⟩ u j (fun e=>hne Rw)
theorem Own.jH {α:Type} {w:World} {base g n c i j:Nat} {e:TypeId} {size:Nat} {f:α->List Value} (hf:∀ a,(f a).length=size) {l:List α} (h:Own w base e size f (.slice (some ⟨g,0,none⟩) n c) l) (hi:i<l.length) (hj:j<size) (y:α) (u:Value) (hy:f y=(f l[i]).set j u) :
  Own (w.setCell ⟨g,i*size+j,none⟩ u) base e size f (.slice (some ⟨g,0,none⟩) n c) (l.set i y):=by
 obtain ⟨h1,h2⟩:=h;rcases h2 with ⟨hv,h0⟩ | ⟨g',cap,cur,hv,hg,hh,hnc,hcm,hcs,hx⟩
 · cases hv
 ·injection hv with e1 e2 e3;injection e1 with e1;injection e1 with e1 _ _;subst e1 e3;have hl:(l.set i y).length=l.length:=by simp
  have hs0:0<size:=by omega
  refine ⟨by rw [flat_length f size hf],.inr ⟨g,c,_,by rw [hl,e2],hg,AO.EW hh (i*size+j) u,by rw [hl];exact hnc,hcm,by simpa using hcs,?_⟩⟩;apply lK;intro m;rw [List.getElem?_take,hl];by_cases hm:m<l.length*size
  ·rw [AZ hm,asP f size hf l i hi y m hm];have hcur:(l.flatMap f)[m]? = cur[m]? := by
    rw [<- hx,List.getElem?_take,AZ hm];simp
   have hmc:m<cur.size:=by rw [hcs];have:=lM size hnc;omega
   have hdm:=Nat.div_add_mod m size;have hml:=U7 m hs0;rw [hcur];simp only [Array.getElem?_toList,Array.getElem?_setIfInBounds,Array.size_setIfInBounds];by_cases OT:m / size=i
   ·rw [AZ OT,hy,List.getElem?_set];have hm2:m=i*size+m % size:=by rw [<- OT,sJ];omega
    by_cases hmj:j=m % size
    ·rw [AZ hmj,AZ (show j<(f l[i]).length by rw [hf];exact hj),AZ (show i*size+j=m by omega)]
     first | rw [AZ hmc] | rw [AZ (show i*size+j<cur.size by omega)]
    ·rw [AX hmj,AX AB];have e2:=flat_get f size hf l i (m % size) hi hml;rw [<- hm2] at e2;rw [<- e2,hcur]
   · rw [AX OT,AX (fun e=>OT (by rw [<- e,sJ,Nat.mul_add_div hs0,Nat.div_eq_of_lt hj];rfl))]
  · rw [AX hm,Y0 (by rw [flat_length f size hf,hl];omega)]
open Go.RowKit Go.Sort
def jI (w:World) (v:Value) (l:List Rn):Prop:=Sl w v l.length (l.flatMap G9)
theorem jI.mono {w w':World} {v:Value} {l:List Rn} (h:jI w v l) (hb:AP w w'):jI w' v l:=Sl.mono h hb
theorem Row.rn {w:World} {A:Option Addr} {l:List Rn} (h:Row w A (l.flatMap G9)) {k:Nat} (hk:k<l.length) :
  ∃ b o,A=some ⟨b,o,none⟩/\b<w.heap.size/\w.cell? ⟨b,o+k*2,none⟩=some (.int .i64 l[k].lo)/\w.cell? ⟨b,o+k*2+1,none⟩=some (.int .i64 l[k].hi):=by
 obtain ⟨b,o,hA,hb,hc⟩:=h.at_ (n:=2) (fun _=>rfl) hk AB;exact ⟨b,o,hA,hb,hc 0 _ rfl,hc 1 _ rfl⟩
theorem Own.aio {α:Type} {f:α->List Value} {w:World} {base:Nat} {e:TypeId} {size:Nat} {A:Option Addr} {n c:Nat} {l:List α} (h:Own w base e size f (.slice A n c) l):Row w A (l.flatMap f):=by
 obtain ⟨A',c',he,-,-,hr⟩:=h.sl;injection he with e1 e2 e3;subst e1;exact hr
theorem Own.jJ {w:World} {B:Nat} {A:Option Addr} {n c:Nat} {L:List Rn} (h:Own w B 121 2 G9 (.slice A n c) L) (hl:0<L.length):∃ g,A=some ⟨g,0,none⟩/\B<=g/\g<w.heap.size/\(∀ j,w.frozen? ⟨g,j,none⟩=false) /\
  ∀ k (hk:k<L.length),w.cell? ⟨g,k*2,none⟩=some (.int .i64 L[k].lo)/\w.cell? ⟨g,k*2+1,none⟩=some (.int .i64 L[k].hi):=by
 have hr:=h.aio;rcases h.2 with ⟨_,h0⟩ | ⟨g,cap,cur,hv,hg,hh,-⟩
 · omega
 ·injection hv with e1 e2 e3;subst e1;refine ⟨g,rfl,hg,AO.lt hh,fun j=>AO.frozen hh j,fun k hk=>?_⟩;obtain ⟨b,o,Ec,-,c0,c1⟩:=Row.rn hr hk;injection Ec with Ec;injection Ec with y1 y2 _;subst y1 y2;rw [QC] at c0 c1;exact ⟨c0,c1⟩
def aeS (w:World) (l:List Rn) (e:Ending) (w':World):Prop:=∃ A c,e=.returned (.slice A l.length c)/\Own w' w.heap.size 121 2 G9 (.slice A l.length c) l/\AP w w'
theorem asZ (out:List Rn) (r:Rn):(TK out r).length<=out.length+1:=by
 unfold TK;split
 · omega
 ·split
  · rw [Qm];omega
  · simp
def Nq (l:List Rn) (k:Nat):List Rn:=(l.take k).foldl TK []
theorem aip {l:List Rn} {k:Nat} (hk:k<l.length):Nq l (k+1)=TK (Nq l k) l[k]:=by
 unfold Nq;rw [En hk,O9];rfl
theorem aeT (l:List Rn):∀ k,(Nq l k).length<=k
 | 0=>by simp [Nq]
 | k+1=>by
  have ih:=aeT l k;by_cases hk:k<l.length
  ·rw [aip hk];have:=asZ (Nq l k) l[k]
   omega
  ·have:Nq l (k+1)=Nq l k:=by unfold Nq;rw [Hw AB,Hw AB]
   rw [this];omega
theorem aiq (v:Value) (l:List Rn) (w:World) (h:jI w v l) (hl:l.length<=100000):Calls Tryz.prog 254 #[v] w (aeS w (Pn l)):=by
 have PZ:=AA (@asW);have aeU:=AA (fun m (hp:m.Perm l) hs=>asN (l:=l) (m:=m) hp hs);obtain ⟨A,c,rfl,hn1,hn2,hR⟩:=h;unfold maxLen at hn2;have HR:=AA (show jI w (.slice A l.length c) l from ⟨A,c,rfl,hn1,tC,hR⟩);obtain ⟨R,hRr⟩:=BL (Pn l);rw [hRr] at aeU ⊢;clear hR hRr;go_enter Tryz.func254,Tryz.ntmps254;go_upto_region 2 with
  (at_make
   obtain ⟨ht_,i_,z_,hi_,hz_,air,ais,asa,asb⟩:=YW;refine wpList_make_full _ rfl (.tmp 8) (.tmp 8) _ rfl w.heap.size _ i_ z_ 2 ht_ hi_ hz_ air .i64 .i64 _ _ l.length rfl rfl rfl rfl (by rw [ais];omega) (D6 AB) (DT _) ?_;intro w1 ho1 hg1;have JZ:=AA ho1;have HB1:=AA (bG (bR w) hg1 (fun k hk=>by cases hk));clear ho1 hg1 ht_ hi_ hz_ air ais asa asb)
 generalize (madeCells z_.cells (l.length*2)).toList=zs at *;go_upto_region 3 with
  (refine asY _ rfl (.tmp 10) (.tmp 11) _ rfl YW Xo YV rfl JZ.out (l:=l) rfl rfl (HR.out.mono HB1.out) ?_
   intro w2 ho2 hg2;have EU:=AA ho2;have HB2:=AA (bG HB1.out hg2 (fun k hk=>(JZ.out.lt k hk).1));clear ho2 hg2)
 go_wp2_with fail;refine (PZ.out w.heap.size _ l _ EU.out AB).mono ?_;rintro e w3 ⟨rfl,m,hp,hs,ho3,hg3⟩;have hm:=aeU.out m hp (hs.imp (fun {a b} g=>by rw [nG (fun x:Rn=>x.lo),J3] at g;omega));have hml:m.length=l.length:=hp.length_eq;have HM:=AA hm;have HB3:=AA (bG HB2.out hg3 (fun k hk=>(EU.out.lt k hk).1));have hsl:=ho3.sl;rw [hml] at hsl;have QB:=AA hsl;have ayh:m.length<=100000:=by omega
 have HLm:=AA hml;have hz3:=HB3.out.size;clear aeU PZ HR JZ HB1 EU HB2 hp hs ho3 hg3 hm hsl hml;go_upto_block 0 with fail;go_wp2_with fail;go_loopw [2,17] (fun s i wr=>∃ k:Nat,k<=l.length/\i=.int .i64 k/\(∃ A c,s=.slice A (Nq m k).length c)/\Own wr w3.heap.size 121 2 G9 s (Nq m k)/\AP w3 wr) (fun _ i _=>l.length-(intOf i).toNat)
 case atStart => exact ⟨0,BZ _,rfl,⟨none,0,rfl⟩,Own.nil _ _ _ _ _,bR w3⟩
 case round =>
  obtain ⟨k,hk,rfl,⟨A',c',rfl⟩,ho,hb⟩:=hrel;obtain ⟨wo,rfl⟩:=BO wr;have HO:=AA ho;have HB:=AA hb;have aBA:=hb.size;clear ho hb;by_cases hlt:k<l.length
  ·have hkm:k<m.length:=by have:=HLm.out;omega
   have hsu:=aip hkm;have TQ:=aeT m k;obtain ⟨A3,c3,he3,-,-,hR3⟩:=QB.out.mono HB.out;injection he3 with y1 y2 y3;subst y1;clear y2 y3;obtain ⟨b,o,Ec,hlb,c0,c1⟩:=Row.rn hR3 hkm;injection Ec with Ec;injection Ec with y1 y2 _;subst y1 y2;simp only [QC] at c0 c1;generalize m[k]=r at *;obtain ⟨Q,hQ⟩:=BL (Nq m k);rw [hQ] at HO hsu TQ ⊢;have Ov:=AA hsu;have HQe:=AA hQ;have k1:(k:Int)<l.length:=by omega
   have k2:0<=(k:Int):=by omega
   clear hsu hQ hR3;by_cases e1:r.hi<=r.lo
   ·have hq:Nq m (k+1)=Q:=by rw [Ov.out];unfold TK;rw [AZ e1]
    have Ku:=AA hq;have bH:=AA (bA HB.out (.cells #[.int .i64 r.lo,.int .i64 r.hi] 121));have aBE:=AA (Own.alloc HO.out (.cells #[.int .i64 r.lo,.int .i64 r.hi] 121));clear hq;go_wp2;go_roundw
    case rel => exact ⟨k+1,AB,BI,⟨A',c',by rw [Ku.out]⟩,by rw [Ku.out];exact aBE.out,bH.out⟩
    case measure => exact BK
   ·have hn1:IntKind.i64.wrap ((Q.length:Int)-1)=(Q.length:Int)-1:=Ci _ AB;go_upto_region 10 with fail;obtain ⟨W2,hW2⟩:∃ W:World,W=wo.alloc (.cells #[.int .i64 r.lo,.int .i64 r.hi] 121):=⟨_,rfl⟩;have hA1:AP wo W2:=by rw [hW2];exact bA (bR wo) _
    obtain ⟨g5,hg5⟩:=BL wo.heap.size;have X5:AO W2 g5 121 #[.int .i64 r.lo,.int .i64 r.hi]:=by rw [hW2];exact AO.made hg5.symm _ _
    have EU:=AA (HO.out.keep hA1);have HB2:=AA (bT HB.out hA1);have D8:=AA X5;have hgl:=fun q hq=>(HO.out.lt q hq).2;rw [<- hW2]
    try rw [hg5]
    clear hW2 hA1 c0 c1 hlb HO HB;obtain ⟨CJ,CO,CS,-,-⟩:=X5.BN;rcases VF Q.length with h0 | h0
    ·have hq:Nq m (k+1)=Q++[r]:=by rw [Ov.out,lQ h0];unfold TK;rw [AX e1,AX Aw]
     have Ku:=AA hq;have kq:¬ (1:Int)<=(Q.length:Int):=by omega
     clear h0 hq hn1;refine Cj (W2) (.run 13 0 0 (.done)) fun Bv QR Ae Ah hS=>?_
     iterate 3 refine Aj ?_
     iterate 8 refine JU ?_
     iterate 2 refine Aj ?_
     refine Ce ?_;clear hS Ah Ae;intro hB;obtain ⟨W3,hW3⟩:∃ W:World,W=W2.drew:=⟨_,rfl⟩;rw [<- hW3] at hB ⊢;have EI:=AA (EU.out.keep hB);have jK:=AA (bT HB2.out hB);have IV:=AA (D8.out.keep hB);clear hB hW3 X5 CJ CO CS D8 EU HB2;have hsh:(Q++[r]).length=Q.length+1:=by simp
     have DL:=AA hsh;have X5:=IV.out;clear hsh
     try clear CJ CO CS
     obtain ⟨CJ,CO,CS,-,-⟩:=X5.BN;go_wp2_with
      (at_builtin
       refine Ew _ rfl (.tmp 24) (.tmp 26) _ rfl (base:=w3.heap.size) YW Xo YV rfl (Own.alloc EI.out _) rfl (l2:=[r]) (Sl.lit (n:=1) (AO.made rfl _ _) rfl (D6 AB)) DR DR (by have:=jK.out.size;simp;omega) ?_;intro v4 w4 JY hg4 Zw;obtain ⟨A4,c4,hv4,-⟩:=JY.sl;rw [DL.out] at hv4;subst hv4;have JA:=AA JY;have HB4:=AA (bG (bA jK.out _) hg4 (fun g hg=>(EI.out.lt g hg).1));clear JY hg4 Zw
       )
     go_roundw
     case rel => exact ⟨k+1,AB,BI,⟨A4,c4,by rw [Ku.out,DL.out]⟩,by rw [Ku.out];exact JA.out,HB4.out⟩
     case measure => exact BK
    ·obtain ⟨n,hn⟩:∃ n,Q.length=n+1:=⟨Q.length-1,AB⟩;have hnl:n<Q.length:=by omega
     have hq1:(Q.length:Int)-1=(n:Int):=by omega
     have hgd:Q.getD (Q.length-1) aBC=Q[n]:=by
      rw [hn,Fj,show n+1-1=n by omega,DK hnl];rfl
     have aeV:Q.length-1=n:=by omega
     have hsu:=Ov.out;unfold TK at hsu;rw [AX e1,hgd,aeV] at hsu;rw [hq1];obtain ⟨gQ,hgA,hgQ,ayi,hfz,hce⟩:=Own.jJ EU.out h0;subst hgA;obtain ⟨d0,d1⟩:=hce n hnl;have hf1:=hfz (n*2+1);have kq:(0:Int)<=(n:Int):=by omega
     have kn:(n:Int)<(Q.length:Int):=by omega
     have hq5:¬ gQ=g5:=by
      have:=hgl gQ rfl
      omega
     obtain ⟨z,hz⟩:=BL (Q[n]);rw [hz] at d0 d1 hsu;by_cases e2:r.lo<=z.hi
     ·rw [AZ ⟨h0,e2⟩] at hsu;have Ku:=AA hsu;have HZ:=AA hz;clear hsu hgd aeV hn hce hfz hz h0 hn1;refine Cj (W2) (.run 13 0 0 (.done)) fun Bv QR Ae Ah hS=>?_
      iterate 3 refine Aj ?_
      iterate 8 refine Dh ?_
      iterate 2 refine Aj ?_
      refine Ce ?_;clear hS Ah Ae;intro hB;obtain ⟨W3,hW3⟩:∃ W:World,W=W2.drew:=⟨_,rfl⟩;rw [<- hW3] at hB ⊢;have EI:=AA (EU.out.keep hB);have jK:=AA (bT HB2.out hB);have IV:=AA (D8.out.keep hB);clear hB hW3 X5 CJ CO CS D8 EU HB2 d0 d1 hf1;obtain ⟨g',hgA,-,ayj,ait,aiu⟩:=Own.jJ EI.out AB;injection hgA with hgA;injection hgA with hgA _ _;subst hgA;obtain ⟨-,d1⟩:=aiu n hnl;rw [HZ.out] at d1;have hf1:=ait (n*2+1);obtain ⟨mx,hmx⟩:=BO (max z.hi r.hi);have hset:=Own.jH Xo EI.out hnl (j:=1) AB ⟨z.lo,mx⟩ (.int .i64 mx) (by rw [HZ.out];rfl);have Xq:=AA (show Own (W3.setCell ⟨gQ,n*2+1,none⟩ (.int .i64 mx)).drew w3.heap.size 121 2 G9 (.slice (some ⟨gQ,0,none⟩) Q.length c') (Q.set n ⟨z.lo,mx⟩) from hset);have oG:=AA (bD (bS (p:=⟨gQ,n*2+1,none⟩) jK.out hgQ (.int .i64 mx)));have hq:=Ku.out;rw [<- hmx] at hq;have oH:=AA hq;have Hmx:=AA hmx;have X5:=IV.out;clear hset hmx hq aiu ait Ku
      try clear CJ CO CS
      obtain ⟨CJ,CO,CS,-,-⟩:=X5.BN;have nq5:¬ some g5=some gQ:=fun e=>hq5 (Dc e).symm;go_upto_region 11 with fail;refine Vp (W3) (some gQ) (.run 6 0 0 (.take 7 191 (.take 8 447 (.call 6 511 (.run 3 9 511 (.call 12 8191 (.done))))))) fun Bv QR Ae Ah hS=>?_
      iterate 8 refine Aj ?_
      refine BP ?_;clear hS;intro K hK AQ;go_simp;refine hK.out _ _ AQ.out (fun hS=>?_);clear hK K AQ
      try simp only [pu]
      iterate 3 refine Aj ?_
      refine BP ?_;clear hS;intro K hK AQ;go_simp;refine hK.out _ _ (by first | exact gS AQ.out _ _ | (unfold JI;have QW:World.grownBy _ _ _:=AQ.out;repeat (first | with_reducible assumption | with_reducible exact World.grownBy.refl _ _ | with_reducible refine gS ?_ _ _ | with_reducible refine gD ?_ | with_reducible refine gA ?_ _))) (fun hS=>?_);clear hK K AQ
      try simp only [pu]
      refine Ry ?_;clear hS Ah Ae;intro hB;rw [<- Hmx.out];go_wp2;go_roundw
      case rel => exact ⟨k+1,AB,BI,⟨some ⟨gQ,0,none⟩,c',by rw [oH.out,Qm]⟩,by rw [oH.out];exact Xq.out,oG.out⟩
      case measure => exact BK
     ·rw [AX (fun g=>e2 g.2)] at hsu;have Ku:=AA hsu;clear hsu hgd aeV hn hce hfz hz h0 hn1;refine Cj (W2) (.run 13 0 0 (.done)) fun Bv QR Ae Ah hS=>?_
      iterate 3 refine Aj ?_
      iterate 8 refine Dh ?_
      iterate 2 refine Aj ?_
      refine Ce ?_;clear hS Ah Ae;intro hB;obtain ⟨W3,hW3⟩:∃ W:World,W=W2.drew:=⟨_,rfl⟩;rw [<- hW3] at hB ⊢;have EI:=AA (EU.out.keep hB);have jK:=AA (bT HB2.out hB);have IV:=AA (D8.out.keep hB);clear hB hW3 X5 CJ CO CS D8 EU HB2;have hsh:(Q++[r]).length=Q.length+1:=by simp
      have DL:=AA hsh;have X5:=IV.out;clear hsh
      try clear CJ CO CS
      obtain ⟨CJ,CO,CS,-,-⟩:=X5.BN;go_wp2_with
       (at_builtin
        refine Ew _ rfl (.tmp 24) (.tmp 26) _ rfl (base:=w3.heap.size) YW Xo YV rfl (Own.alloc EI.out _) rfl (l2:=[r]) (Sl.lit (n:=1) (AO.made rfl _ _) rfl (D6 AB)) DR DR (by have:=jK.out.size;simp;omega) ?_;intro v4 w4 JY hg4 Zw;obtain ⟨A4,c4,hv4,-⟩:=JY.sl;rw [DL.out] at hv4;subst hv4;have JA:=AA JY;have HB4:=AA (bG (bA jK.out _) hg4 (fun g hg=>(EI.out.lt g hg).1));clear JY hg4 Zw
        )
      go_roundw
      case rel => exact ⟨k+1,AB,BI,⟨A4,c4,by rw [Ku.out,DL.out]⟩,by rw [Ku.out];exact JA.out,HB4.out⟩
      case measure => exact BK
  ·have hkk:Nq m k=R:=by
    have:=HLm.out
    rw [<- HM.out];unfold Nq jG;rw [Hw AB]
   have RJ:=AA (show Own wo w.heap.size 121 2 G9 (.slice A' (Nq m k).length c') (Nq m k) from HO.out.Du hz3);rw [hkk] at RJ;generalize Nq m k=Q at *;subst hkk;clear HO;go_wp2;go_ret;exact ⟨A',c',rfl,RJ.out,bT HB3.out HB.out⟩
structure WW (w w':World) (g:Nat) (r:Option Nat):Prop where
 size:w.heap.size<=w'.heap.size
 blk:∀ g1,g1<w.heap.size->g1≠g->r≠some g1->w'.heap[g1]? = w.heap[g1]?
theorem WW.refl (w:World) (g:Nat) (r:Option Nat):WW w w g r:=⟨DT _,fun _ _ _ _=>rfl⟩
theorem WW.keep {w w':World} {g:Nat} {r:Option Nat} (h:WW w w' g r) {g1:Nat} {t:TypeId} {cs:Array Value} (hb:AO w g1 t cs) (h1:g1≠g) (h2:r≠some g1):AO w' g1 t cs:=(h.blk g1 hb.lt h1 h2).trans hb
theorem WW.own {w w':World} {g:Nat} {r:Option Nat} (h:WW w w' g r) {α:Type} {B:Nat} {e:TypeId} {n:Nat} {f:α->List Value} {v:Value} {l:List α} (ho:Own w B e n f v l) (h1:v.ownBlock≠some g) (h2:∀ k,v.ownBlock=some k->r≠some k):Own w' B e n f v l:=by
 obtain ⟨h0,h3⟩:=ho;refine ⟨h0,?_⟩;rcases h3 with h3 | ⟨q,cap,cur,rfl,a1,a2,a3⟩
 · exact .inl h3
 · exact .inr ⟨q,cap,cur,rfl,a1,WW.keep h (cs:=cur) a2 (fun e=>h1 Y8) (h2 q rfl),a3⟩
def NewAt (w:World) (v v':Value):Prop:=v'.ownBlock=v.ownBlock\/∃ k,v'.ownBlock=some k/\w.heap.size<=k
theorem asc (lo hi:Int) (B g:Nat) (l:List Rn) (v:Value) (w:World) (h:Xp w B g l v) (hB:B<=w.heap.size) (hl:l.length<=4000000000) :
  Calls Tryz.prog 253 #[.int .i64 lo,.int .i64 hi,.pointer (some ⟨g,0,none⟩)] w fun e w'=>e=.returned (.tuple #[])/\(∃ v',Xp w' B g (l++J9 lo hi) v'/\NewAt w v v')/\WW w w' g v.ownBlock/\∀ w0:World,AP w0 w->w0.heap.size<=B->w0.heap.size<=g->AP w0 w':=by
 obtain ⟨X4,own⟩:=h;obtain ⟨A,c,rfl,-⟩:=Own.sl own;have DJ:=AA X4;have HO:=AA own;have n4:=Own.Dz own X4 BG;clear own;unfold J9;by_cases hlt:lo<hi
 ·rw [AZ hlt];obtain ⟨Bh,Bl,Dl⟩:=X4.Fa;go_enter Tryz.func253,Tryz.ntmps253;have hsh:(l++[(⟨lo,hi⟩:Rn)]).length=l.length+1:=by simp
  have DL:=AA hsh;clear hsh;go_wp2_with
   (at_builtin
    refine Ew _ rfl (.tmp 8) (.tmp 12) _ rfl (base:=B) YW Xo YV rfl (Own.alloc HO.out _) rfl (l2:=[(⟨lo,hi⟩:Rn)]) (Sl.lit (n:=1) (AO.made rfl _ _) rfl (D6 AB)) DR DR DC ?_;intro v3 w3 ho3 hg3 Jc;obtain ⟨A3,c3,hv3,-⟩:=ho3.sl;rw [DL.out] at hv3;subst hv3;have EI:=AA ho3;have Pv:=AO.grown (DJ.out.alloc _) hg3 (fun e=>n4 e.symm);have ase:=AA Pv;have HN3:=AA (Own.Dz ho3 Pv BG);have HAt:=AA (show NewAt w (.slice A l.length c) (.slice A3 (l.length+1) c3) from Jc.imp id (fun e=>⟨_,e,Aw⟩));have HK:=AA (show WW w (w3.setCell ⟨g,0,none⟩ (.slice A3 (l.length+1) c3)) g (Value.slice A l.length c).ownBlock from ⟨by have:=hg3.size;simp at this;simp;omega,fun g1 h1 h2 h3=>by
     have h4:=hg3.block g1 DC (fun e=>h3 e.symm);rw [Below.heap_setCell w3 ⟨g,0,none⟩ _ g1 h2,h4];exact Below.heap_alloc w _ g1 h1⟩)
    have HB3:=AA (show ∀ w0:World,AP w0 w->w0.heap.size<=B->w0.heap.size<=g->AP w0 (w3.setCell ⟨g,0,none⟩ (.slice A3 (l.length+1) c3)) from fun w0 h1 h2 h3=>bS (p:=⟨g,0,none⟩) (bG (bA h1 _) hg3 (fun k hk=>Dn h2 (HO.out.lt k hk).1)) h3 _);clear ho3 hg3 Jc X4 Bh Bl Dl;obtain ⟨bI,bJ,bK⟩:=Pv.Fa
    )
  have HF:=AA (show Xp (w3.setCell ⟨g,0,none⟩ (.slice A3 (l.length+1) c3)) B g (l++[(⟨lo,hi⟩:Rn)]) (.slice A3 (l.length+1) c3) from ⟨ase.out.EW 0 _,EI.out.far HN3.out _⟩);exact bodyPost_end (v:=.tuple #[]) (results_none rfl _ _ _) rfl ⟨rfl,⟨_,HF.out,HAt.out⟩,HK.out,HB3.out⟩
 ·rw [AX hlt,IQ];go_enter Tryz.func253,Tryz.ntmps253;go_wp2_with fail;exact bodyPost_end (v:=.tuple #[]) (results_none rfl _ _ _) rfl ⟨rfl,⟨_,⟨DJ.out,HO.out⟩,.inl rfl⟩,WW.refl _ _ _,fun w0 h1 _ _=>h1⟩
set_option linter.unusedSectionVars false
def GX (a b:Int):Bool:=decide (Ee a<Ee b) || (decide (Ee a=Ee b) && decide (b<a))
theorem bM {a b:Int}:GX a b=true↔Ee a<Ee b\/(Ee a=Ee b/\b<a):=by unfold GX;simp
theorem asf (a:Int):GX a a=false:=by rw [<- Iz,bM];omega
theorem aiv {a b:Int} (h1:GX a b=false) (h2:GX b a=false):a=b:=by
 rw [<- Iz,bM] at h1 h2;unfold Ee at *;split at h1<;>split at h1<;>simp_all<;>omega
theorem aeW {a b c:Int} (h1:GX a b=true) (h2:GX b c=true):GX a c=true:=by
 rw [bM] at *;omega
theorem aiw {a b:Int} (h1:GX a b=true):GX b a=false:=by
 rw [<- Iz];intro h2;rw [bM] at h1 h2;omega
def RN (k d:Int):Int:=if GX d k then d else k
def OU (c:List Int) (n:Nat):Int:=(c.take n).foldl RN (c.headD 0)
def DZ (c:List Int):Int:=c.foldl RN (c.headD 0)
theorem aix {c:List Int} {n:Nat} (hn:n<c.length):OU c (n+1)=RN (OU c n) c[n]:=by
 unfold OU;rw [En hn,O9];rfl
theorem aiy (c:List Int):OU c c.length=DZ c:=by unfold OU DZ;rw [H8]
theorem aBF:∀ (l:List Int) (k:Int),l.foldl RN k=k\/l.foldl RN k∈l
 | [],k=>.inl rfl
 | d::l,k=>by
  rw [U5];rcases aBF l (RN k d) with h | h
  ·rw [h];unfold RN;split
   · exact .inr Ea
   · exact .inl rfl
  · exact .inr (Gn _ h)
theorem yQ {c:List Int} (h:c≠[]):DZ c∈c:=by
 rcases aBF c (c.headD 0) with e | e
 ·unfold DZ;rw [e]
  cases c with
  | nil=>exact absurd rfl h
  | cons a c=>exact Ea
 · exact e
def bP (X:List Int) (l:List (List Int)):List (List Int):=l.takeWhile (fun Y=>!GX (DZ X) (DZ Y))++X::l.dropWhile (fun Y=>!GX (DZ X) (DZ Y))
def sortK (l:List (List Int)):List (List Int):=l.foldl (fun acc X=>bP X acc) []
def RP (X Y:List Int):Bool:=GX (DZ X) (DZ Y)
theorem asg (X:List Int) (l:List (List Int)):(bP X l).Perm (X::l):=by
 unfold bP;refine List.perm_middle.trans ?_;rw [aAK]
theorem arl {X:List Int} {l:List (List Int)} (h:l.Pairwise (fun a b=>RP b a=false)):(bP X l).Pairwise (fun a b=>RP b a=false):=by
 unfold bP;have hall:(l.takeWhile (fun Y=>!GX (DZ X) (DZ Y))++l.dropWhile (fun Y=>!GX (DZ X) (DZ Y)))=l:=aAK;have h1:∀ Y∈l.takeWhile (fun Y=>!GX (DZ X) (DZ Y)),GX (DZ X) (DZ Y)=false:=fun Y hY=>by
  have:=JF.1 (List.all_takeWhile (p:=fun Y=>!GX (DZ X) (DZ Y)) (l:=l)) Y hY
  simpa using this
 have h2:∀ Y∈l.dropWhile (fun Y=>!GX (DZ X) (DZ Y)),GX (DZ Y) (DZ X)=false:=by
  intro Y hY
  cases hd:l.dropWhile (fun Y=>!GX (DZ X) (DZ Y)) with
  | nil=>rw [hd] at hY;cases hY
  | cons Z m =>
   have hZ:GX (DZ X) (DZ Z)=true:=by
    have:=List.head_dropWhile_not (fun Y=>!GX (DZ X) (DZ Y)) (l:=l) (by rw [hd];simp)
    simp only [hd,List.head_cons] at this;simpa using this
   rw [hd] at hY;rcases EJ.1 hY with rfl | hY
   · exact aiw hZ
   ·have hp:(Z::m).Pairwise (fun a b=>RP b a=false):=by
     have:=h
     rw [<- hall,Ql] at this;rw [<- hd];exact this.2.1
    have:=(JC.1 hp).1 Y hY
    rw [<- Iz];intro hc;have h3:=aeW hc hZ;unfold RP at this;rw [h3] at this
    cases this
 have hp:=h;rw [<- hall,Ql] at hp;rw [Ql,JC];refine ⟨hp.1,⟨h2,hp.2.1⟩,fun a ha b hb=>?_⟩;rcases EJ.1 hb with rfl | hb
 · exact h1 a ha
 · exact hp.2.2 a ha b hb
theorem XM (l:List (List Int)):(sortK l).Perm l/\(sortK l).Pairwise (fun a b=>RP b a=false):=by
 have:∀ (l acc:List (List Int)),acc.Pairwise (fun a b=>RP b a=false)->(l.foldl (fun acc X=>bP X acc) acc).Perm (acc++l)/\(l.foldl (fun acc X=>bP X acc) acc).Pairwise (fun a b=>RP b a=false):=by
  intro l
  induction l with
  | nil=>intro acc h;exact ⟨by rw [IQ];exact List.Perm.refl _,h⟩
  | cons X l ih =>
   intro acc h;rw [U5];obtain ⟨h1,h2⟩:=ih (bP X acc) (arl h);refine ⟨h1.trans ?_,h2⟩;exact ((asg X acc).append_right l).trans (List.perm_middle (l₁:=acc) (l₂:=l) (a:=X)).symm
 have h:=this l [] List.Pairwise.nil;rw [QD] at h;exact h
section
variable {p:Pl} (h:Valid p)
include h
theorem Valid.arn {X Y:List Int} (hX:X∈CX p) (hY:Y∈CX p) (h1:RP X Y=false) (h2:RP Y X=false):X=Y:=by
 obtain ⟨x,-,-,-,hx⟩:=h.Ph hX;obtain ⟨y,-,-,-,hy⟩:=h.Ph hY;have e:DZ X=DZ Y:=aiv h1 h2;refine h.ad5 hX hY (yQ (fun e=>by rw [e] at hx;cases hx)) ?_;rw [e];exact yQ (fun e=>by rw [e] at hy;cases hy)
theorem Valid.aiz {l:List (List Int)} (hl:l.Perm (Bj p)) (hs:l.Pairwise (fun a b=>RP b a=false)):l=sortK (Bj p):=by
 obtain ⟨h1,h2⟩:=XM (Bj p);refine iF (lt:=RP) (hl.trans h1.symm) hs h2 fun a ha b hb g1 g2=>?_;have ma:=(Nl.1 (hl.subset ha)).1;have mb:=(Nl.1 (hl.subset hb)).1;exact h.arn ma mb g1 g2
end
def lenV:Value->Nat
 | .slice _ n _=>n
 | _=>0
def TR (S:Int->Bool) (l:List Int) (x:Int):Bool:=S x || decide (x∈l)
theorem aro (S:Int->Bool):TR S []=S:=by
 funext x;simp [TR]
theorem arp (S:Int->Bool) (l:List Int) (y:Int):(fun i=>if i=y then true else TR S l i)=TR S (l++[y]):=by
 funext x
 unfold TR;by_cases e:x=y
 · subst e;simp
 · simp [e]
theorem arq {f:Int->Int} {D:List Int} (hD:∀ x∈D,f x∈D) (hi:∀ x∈D,∀ y∈D,f x=f y->x=y) {x:Int} (hx:x∈D) {j:Nat} (hj:j<LV f D x):pw f x j∉iter f x j/\pw f x j∈JM f D x:=by
 obtain ⟨-,-,-,-,h5,-⟩:=WL hD hi hx;constructor
 ·intro hm;obtain ⟨k,hk,e⟩:=Uz.1 hm;unfold JM List.Nodup at h5;rw [Fe] at h5;have:=h5 k j (by rw [Wv];omega) (by rw [Wv];omega) hk
  rw [iG,iG] at this;exact this e
 · exact Uz.2 ⟨j,hj,rfl⟩
theorem ars {f:Int->Int} {D:List Int} (hD:∀ x∈D,f x∈D) (hi:∀ x∈D,∀ y∈D,f x=f y->x=y) {x:Int} (hx:x∈D):pw f x (LV f D x)∈JM f D x:=by
 obtain ⟨h1,-,h3,-,-,-⟩:=WL hD hi hx;rw [h3];exact Uz.2 ⟨0,h1,rfl⟩
def aru (w:World) (gm n:Nat) (S:Int->Bool) (l:List Int) (e:Ending) (w':World):Prop :=
 ∃ A c,e=.returned (.slice A l.length c)/\Own w' w.heap.size 3 1 D5 (.slice A l.length c) l/\La w' gm (n+l.length) (TR S l)/\w.grownBy w' (some gm)
theorem yR {w:World} {gm n:Nat} {f:Int->Bool} (h:La w gm n f) {g:Nat} {t:TypeId} {cs:Array Value} (hg:AO w g t cs):g≠gm:=by
 rintro rfl;obtain ⟨D,h1,-⟩:=h;obtain ⟨es,clock,h2,-⟩:=h1;unfold AO at hg;rw [hg] at h2
 cases h2
theorem oI {w:World} {gm n:Nat} {f:Int->Bool} (h:La w gm n f) {base:Nat} {e:TypeId} {size:Nat} {α:Type} {fe:α->List Value} {v:Value} {l:List α} (ho:Own w base e size fe v l):v.ownBlock≠some gm:=by
 rcases ho.2 with ⟨rfl,_⟩ | ⟨g,cap,cur,rfl,_,hh,_⟩
 · simp [Value.ownBlock]
 ·intro e';exact yR h (cs:=cur) (g:=g) hh sV
theorem Own.IE {α:Type} {w:World} {base:Nat} {e:TypeId} {size:Nat} {f:α->List Value} {v:Value} {l:List α} (h:Own w base e size f v l):∃ A c,v=.slice A l.length c/\l.length<=c/\c<=maxLen:=by
 obtain ⟨A,c,rfl,h1,h2,-⟩:=Own.sl h;exact ⟨A,c,rfl,h1,h2⟩
theorem arv (f:Int->Int) (D:List Int) (hD:∀ x∈D,f x∈D) (hi:∀ x∈D,∀ y∈D,f x=f y->x=y) (F:Int->Int) (hF:∀ x∈D,F x=f x) (hw:∀ x∈D,ES x) (hl:D.length<=100000) (S:Int->Bool) (d:Int) (hd:d∈D) (hS:∀ x∈JM f D d,S x=false)
  (gs gn gm gk n m:Nat) (w:World) (hn:n<=1000000) (h1:AO w gs 139 #[.map (some gm)]) (h2:AO w gn 96 #[.map (some gk)]) (hm:La w gm n S) (hk:Gg w gk m F) (hne:gm≠gk) :
  Calls Tryz.prog 119 #[.int .i64 d,.pointer (some ⟨gs,0,none⟩),.pointer (some ⟨gn,0,none⟩)] w (aru w gm n S (JM f D d)):=by
 obtain ⟨o1,o2,o3,-,-,o6⟩:=WL hD hi hd;obtain ⟨q,hq⟩:=BL (JM f D d);have aj0:iter f d (LV f D d)=q:=hq;have aj1:=AA (fun j (hj:j<LV f D d)=>arq hD hi hd hj);have NI:=AA (fun j=>Wx (f:=f) hD hd j);have hend:=ars hD hi hd;rw [hq] at o6 hS hend aj1 ⊢;have HF:=AA hF;have HW:=AA hw;have HS:=AA hS;have aCf:=AA hend;have aCg:=AA aj0;have aCh:=AA o6;clear hF hw hS hend aj0 o6 o3 hD hi hq hd;generalize LV f D d=N at *;have Hm0:=AA hm;have Hk0:=AA hk;have H1:=AA h1;have H2:=AA h2;have n1:=yR hm h1;have n2:=yR hm h2;have hlt1:=h1.lt;have hlt2:=h2.lt;have ayk:=hm.lt;have hltk:=hk.lt;clear hm hk h1 h2;go_enter Tryz.func119,Tryz.ntmps119;go_wp2_with fail;go_loopw [0,4] (fun x s wr=>∃ j:Nat,j<=N/\x=.int .i64 (pw f d j)/\(∃ A c,s=.slice A j c)/\Own wr w.heap.size 3 1 D5 s (iter f d j)/\La wr gm (n+j) (TR S (iter f d j))/\w.grownBy wr (some gm)) (fun _ s _=>N-lenV s)
 case atStart => exact ⟨0,BZ _,rfl,⟨none,0,rfl⟩,Own.nil _ _ _ _ _,by rw [show iter f d 0=[] from rfl,aro];exact Hm0.out,gR w _⟩
 case round =>
  obtain ⟨j,hj,rfl,⟨A,c,rfl⟩,own,mp,hg⟩:=hrel;have HO:=AA own;have HM:=AA mp;have HG:=AA hg;have X1:=H1.out.grow hg (fun e=>n1 (Dc e));have nN:w.heap.size<=wr.heap.size:=hg.size;clear own mp hg;obtain ⟨y,hy⟩:=BL (pw f d j);have hym:=NI.out j;have hy2:f y=pw f d (j+1):=by rw [<- hy];rfl
  have hFy:F y=pw f d (j+1):=by rw [<- hy2];exact HF.out y (hy ▸ hym)
  have hwy:ES y:=HW.out y (hy ▸ hym);have aeX:=aj1.out j;have hlk:=HM.out.look y hwy;rw [hy] at aeX ⊢;have HY:=AA hy;have HFy:=AA hFy;have HWy:=AA hwy;have HN:=AA aeX;have HYm:=AA (hy ▸ hym);clear hym hy2 hFy hwy aeX;by_cases hlt:j<N
  ·have hsf:TR S (iter f d j) y=false:=by
    unfold TR;have h:=HN.out hlt;rw [HS.out y h.2];simpa using h.1
   rw [hsf] at hlk;obtain ⟨w3,hr3,PW,hg3⟩:=HM.out.upd AB y HWy.out true;rw [arp] at PW;have hsn:iter f d j++[y]=iter f d (j+1):=by rw [adT,HY.out]
   rw [hsn] at PW;have Px:=AA PW;have RQ:=AA (gT HG.out hg3);have EI:=AA (Own.grown HO.out hg3 (fun g' hg' e=>oI HM.out HO.out (by rw [hg',e])));have hsz3:wr.heap.size<=w3.heap.size:=hg3.size;have Un:=AA hsn;clear hsf PW hg3 hsn hy;obtain ⟨Ak,Au,-⟩:=X1.Fa;go_upto_region 3 with fail;clear hlk hr3 X1 Ak Au;go_upto_region 4 with
    (at_builtin
     refine Ew _ rfl (.tmp 11) (.tmp 13) _ rfl (base:=w.heap.size) IB Gt IK rfl (Own.alloc EI.out _) rfl (l2:=[y]) (Sl.lit (n:=1) (AO.made rfl _ _) rfl (D6 AB)) abR abR DC ?_;intro v1 w1 ho1 hg1 SI;rw [Un.out] at ho1;obtain ⟨A1,c1,hv1,-⟩:=Own.IE ho1;rw [Wv] at hv1;subst hv1;have JZ:=AA ho1;have hown:=EI.out.lt;have hG1:w.grownBy w1 (some gm):=⟨by rw [hg1.os];exact RQ.out.os,by rw [hg1.tape];exact RQ.out.tape,by rw [hg1.output];exact RQ.out.output,Dn RQ.out.size (Dn Aw hg1.size),fun i hi hne=>by
      rw [hg1.block i (by simp;have:=RQ.out.size;omega) (fun e=>by have:=(hown i e.symm).1;omega),<- RQ.out.block i hi hne];exact (bA (bR w3) (.cells #[.int .i64 y] 3)).block i (by have:=RQ.out.size;omega)⟩
     have HG1:=AA hG1;have OM:=AA ((Px.out.keep (bA (bR w3) (.cells #[.int .i64 y] 3))).kept hg1 (fun e=>oI Px.out EI.out e.symm));clear ho1 hg1 SI hG1 hown
     )
   have X2:=H2.out.grow HG1.out (fun e=>n2 (Dc e));have hlk2:=(Hk0.out.kept HG1.out (fun e=>hne (Dc e).symm)).look y HWy.out;rw [HFy.out] at hlk2;obtain ⟨BQ,BR,-⟩:=X2.Fa;go_wp2;go_roundw
   case rel => exact ⟨j+1,AB,rfl,⟨A1,c1,rfl⟩,JZ.out,OM.out,HG1.out⟩
   case measure => simp only [lenV];omega
  ·have hjN:j=N:=by omega
   subst hjN;have hst:TR S (iter f d j) y=true:=by
    unfold TR;have h:=aCf.out;rw [HY.out,<- aCg.out] at h;simp [h]
   rw [hst] at hlk;clear hst
   try clear Ak Au
   obtain ⟨Ak,Au,-⟩:=X1.Fa;go_wp2;go_ret;rw [aCg.out] at HO HM;have hL:=aCh.out;have ho:=HO.out;have hm:=HM.out;subst hL;exact ⟨A,c,rfl,ho,hm,HG.out⟩
theorem aCi (l:List Int) (j:Nat):(l.flatMap D5)[j]? = (l[j]?).map (.int .i64 ·):=by
 induction l generalizing j with
 | nil=>simp
 | cons a l ih =>
  rw [Ju]
  cases j with
  | zero=>rfl
  | succ j =>
   show (.int .i64 a::l.flatMap D5)[j+1]? = _
   rw [List.getElem?_cons_succ,ih,List.getElem?_cons_succ]
theorem aCj (l:List Int):(l.flatMap D5).length=l.length:=by
 have:=flat_length D5 1 Gt l
 omega
def aj2 (w:World) (base:Nat) (v:Value) (sl:List Int) (e:Ending) (w':World):Prop :=
 e=.returned (.tuple #[])/\Own w' base 3 1 D5 v sl/\w.grownBy w' v.ownBlock
