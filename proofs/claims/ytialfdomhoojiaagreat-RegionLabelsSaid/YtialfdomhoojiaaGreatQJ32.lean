import Derived.Test.YtialfdomhoojiaaGreatLaySortRn
import Derived.Laws.CopyRow
import Derived.Laws.IdiomCopy
import Derived.Test.YtialfdomhoojiaaGreatQJ31
set_option linter.unusedSimpArgs false
set_option linter.unusedVariables false
set_option maxRecDepth 100000
set_option maxHeartbeats 8000000
namespace Go.Proofs.YtialfdomhoojiaaGreat
open Go.RowKit
theorem axG (x y:Int) (w:World) (h:Zm x) (hy:0<y):Calls Tryz.prog 203 #[.int .i64 x,.int .i64 y] w fun e w'=>e=.returned (.tuple #[.int .i64 (Sj x y),.int .i64 0])/\w=w':=by
 have HC:=AA (fun w=>atx x y w h AB);have hbd:=aty (b:=y) h AB;obtain ⟨⟨b1,b2⟩,b3,b4⟩:=hbd;have k1:IntKind.i64.wrap (x.tdiv y)=x.tdiv y:=D6 _ AB;have k2:IntKind.i64.wrap (x.tmod y)=x.tmod y:=D6 _ AB;have k3:¬ y=0:=by omega
 have k4:IntKind.i64.wrap (x.tdiv y+1)=x.tdiv y+1:=D6 _ AB;have k5:decide (y<0)=false:=by simp;omega
 obtain ⟨r,hr⟩:=BN (Sj x y);rw [hr];rw [auk hy] at hr;have Hr:=AA hr;clear hr hy h b1 b2 b3 b4;by_cases h0:x.tmod y=0
 ·have e0:(x.tmod y != 0)=false:=by simp [h0]
  have hf:=Hr.out;rw [AX (fun e=>e.1 h0)] at hf;have HF:=AA hf;clear hf h0 k5;go_enter Tryz.func203,Tryz.ntmps203;go_wp2_with fail;refine (HC.out _).mono ?_;rintro e w1 ⟨rfl,rfl⟩;go_wp2_with fail;go_ret2;exact ⟨by rw [<- HF.out];rfl,rfl⟩
 ·have e0:(x.tmod y != 0)=true:=by simp [h0]
  by_cases h1:x.tmod y<0
  ·have hf:=Hr.out;rw [AX (fun e=>e.2 h1)] at hf;have HF:=AA hf;have e1:(decide (x.tmod y<0) == decide (y<0))=false:=by rw [k5,JO h1];rfl
   clear hf h0 h1 k5;go_enter Tryz.func203,Tryz.ntmps203;go_wp2_with fail;refine (HC.out _).mono ?_;rintro e w1 ⟨rfl,rfl⟩;go_wp2_with fail;go_ret2;exact ⟨by rw [<- HF.out];rfl,rfl⟩
  ·have hf:=Hr.out;rw [AZ ⟨h0,h1⟩] at hf;have HF:=AA hf;have e1:(decide (x.tmod y<0) == decide (y<0))=true:=by rw [k5,Gg h1];rfl
   clear hf h0 h1 k5;go_enter Tryz.func203,Tryz.ntmps203;go_wp2_with fail;refine (HC.out _).mono ?_;rintro e w1 ⟨rfl,rfl⟩;go_wp2_with fail;go_ret2;exact ⟨by rw [<- HF.out];rfl,rfl⟩
def GZ (r:Rn):List Value:=[.int .i64 r.lo,.int .i64 r.hi]
theorem YC (r:Rn):(GZ r).length=2:=rfl
theorem ZQ (r:Rn):∀ u∈GZ r,u.oneCell'=true:=by simp [GZ,Value.oneCell']
theorem ZR:Elem Tryz.prog 124 121 2 16:=Elem.PU (z:=.agg #[.int .i64 0,.int .i64 0]) I8 I8 rfl AB
theorem axH (s t:Rn) (w:World):Calls Tryz.prog 277 #[.agg #[.int .i64 s.lo,.int .i64 s.hi],.agg #[.int .i64 t.lo,.int .i64 t.hi]] w fun e w'=>e=.returned (.int .i64 (KN s.lo t.lo))/\NY w w':=by
 go_enter Tryz.func277,Tryz.ntmps277;go_wp2_with fail;refine (uo s.lo t.lo _).mono ?_;rintro e w1 ⟨rfl,hb1,hd1⟩;have HB1:=AA (bT (bA (bA (bR w) _) _) hb1);have HD1:=AA (dT (dA (dA (dR w) _) _) hd1);clear hb1 hd1;go_wp2;go_ret;exact ⟨rfl,HB1.out,HD1.out⟩
structure YD (w:World) (B g:Nat) (l:List Rn) (v:Value):Prop where
 box:AO w g 124 #[v]
 own:Own w B 121 2 GZ v l
theorem YD.keep {w w':World} {B g:Nat} {l:List Rn} {v:Value} (h:YD w B g l v) (hb:AU w w'):YD w' B g l v:=⟨h.box.keep hb,h.own.keep hb⟩
open Go.RowKit Go.Sort
theorem awQ:∀ w,(isAgg 121).run Tryz.prog w=.ok true w:=fun _=>by kernel_rfl
theorem awR:∀ w,(Go.sizeOf 121).run Tryz.prog w=.ok 2 w:=fun _=>by kernel_rfl
def awS (w:World) (base:Nat) (v:Value) (sl:List Rn) (e:Ending) (w':World):Prop :=
 e=.returned (.tuple #[])/\∃ sl':List Rn,sl'.Perm sl/\sl'.Pairwise (fun a b=>ltOf (fun x y:Rn=>KN x.lo y.lo) b a=false)/\Own w' base 121 2 GZ v sl'/\w.grownBy w' v.ownBlock
theorem awT (base:Nat) (v:Value) (sl:List Rn) (w:World) (hown:Own w base 121 2 GZ v sl) (hn:sl.length<=4294967296) :
  Calls Tryz.prog 276 #[v,.func (.func 277) #[] #[]] w (awS w base v sl):=by
 rcases sl with _ | ⟨s0,rest⟩
 ·have hv:∃ p cap,v=.slice p 0 cap:=by
   rcases hown.2 with ⟨h,_⟩ | ⟨g,cap,cur,h,_⟩
   · exact ⟨_,_,h⟩
   · exact ⟨_,_,h⟩
  obtain ⟨p,cap,rfl⟩:=hv;refine Calls.mono (AnyF.slices_SortFunc_none Tryz.sortRn p cap (.func (.func 277) #[] #[]) w) ?_;rintro e w' ⟨rfl,rfl⟩;exact ⟨rfl,[],List.Perm.refl _,List.Pairwise.nil,hown,World.grownBy.refl _ _⟩
 generalize hsl:s0::rest=sl at *;have hs0:s0∈sl:=by rw [<- hsl];simp
 have hpos:0<sl.length:=by rw [<- hsl];simp
 obtain ⟨hlen,hown2⟩:=hown;rcases hown2 with ⟨_,h0⟩ | ⟨g,cap,cur,rfl,hg,hh,hnc,hcm,hcs,hx⟩
 · omega
 haveI hI:Inhabited {s:Rn // s=s}:=⟨⟨s0,rfl⟩⟩
 have hdl:∃ dl:List {s:Rn // s=s},dl.map (·.1)=sl:=⟨sl.attachWith (fun s=>s=s) (fun _ _=>rfl),Ak⟩;obtain ⟨dl,hdl⟩:=hdl;have hdn:dl.length=sl.length:=by rw [<- hdl];simp
 have hfm:dl.flatMap (fun x=>GZ x.1)=sl.flatMap GZ:=by rw [<- hdl,Og]
 have hcur:∀ j,j<sl.length*2->cur[j]? = (sl.flatMap GZ)[j]? := fun j hj=>by
  rw [<- hx,List.getElem?_take,AZ hj];simp
 have eg:∀ args w,(callFunc 277 args).run Tryz.prog w=.ok (.enter 277 args) w:=enters_of Tryz.func277 I8 rfl;have hkk:∀ x:{s:Rn // s=s},(GZ x.1).length=2:=fun _=>rfl;have hcmp:CmpLays Tryz.prog 277 #[] (fun x:{s:Rn // s=s}=>GZ x.1) 2 (fun x y=>(fun x y:Rn=>KN x.lo y.lo) x.1 y.1) g 0 dl.toArray.size w:=fun m os dk hdk x y=>by
  have hg':=aY (fun x:{s:Rn // s=s}=>GZ x.1) 2 w g 0 m dk os;exact (axH x.1 y.1 _).mono fun e w' h=>⟨h.1,vC h.2⟩
 have hsz:dl.toArray.size*2=sl.length*2:=by simp [hdn]
 have hH:HoldsK (fun x:{s:Rn // s=s}=>GZ x.1) 2 w g 0 dl.toArray:=fun j hj=>by
  rw [size_flatK,hsz] at hj;refine ⟨?_,AO.frozen (t:=121) (cs:=cur) hh _⟩;rw [cell_of_row w g _ cur 121 (0,0) hh,Qm,hcur j hj,aZ _ 2 hkk _ j (by rw [hsz];exact hj)];simp only [id];rw [hfm,List.getElem!_eq_getElem?_getD]
  have:j<(sl.flatMap GZ).length:=by rw [hlen];exact hj
  rw [Dh this];rfl
 have hcon:=AnyQ.slices_SortFunc Tryz.sortRn 2 awQ awR (fun x:{s:Rn // s=s}=>GZ x.1) hkk (fun x=>ZQ x.1) (fun x y=>(fun x y:Rn=>KN x.lo y.lo) x.1 y.1) (adB fun x:{s:Rn // s=s}=>x.1.lo) 277 #[] g 0 cap dl.toArray w eg hcmp hH (AO.lt hh) DT;have hns:dl.toArray.size=sl.length:=by simp [hdn]
 rw [hns] at hcon;refine Calls.mono hcon ?_;rintro e w' ⟨rfl,d',n,os,hp,hs,rfl⟩;obtain ⟨p1,-,p3⟩:=hp;have hd':d'.size=sl.length:=by rw [p1,hns]
 have hperm:d'.toList.Perm dl:=by
  have e1:d'.extract 0 sl.length=d':=by rw [<- hd'];simp
  have e2:dl.toArray.extract 0 sl.length=dl.toArray:=by rw [<- hns];simp
  rw [e1,e2] at p3;simpa using p3
 have hg':=aY (fun x:{s:Rn // s=s}=>GZ x.1) 2 w g 0 n d' os;refine ⟨rfl,d'.toList.map (·.1),by rw [<- hdl];exact hperm.map _,?_,?_,hg'⟩
 ·rw [I5,Fa];intro i j hi hj hij;have hj':j<d'.size:=by simpa using hj
  have:=hs i j (Bv _) hij (by rw [<- hd'];exact hj')
  rw [getElem!_pos d' j hj',getElem!_pos d' i AB] at this;exact this
 ·have hl':(d'.toList.map (·.1)).length=sl.length:=by simp [hd']
  unfold Own;rw [hl'];have hfd:(d'.toList.map (·.1)).flatMap GZ=d'.toList.flatMap (fun x=>GZ x.1):=by rw [Og]
  have hln:((d'.toList.map (·.1)).flatMap GZ).length=sl.length*2:=by rw [flat_length GZ 2 YC,hl']
  refine ⟨hln,.inr ⟨g,cap,putCells id 0 (flatK (fun x:{s:Rn // s=s}=>GZ x.1) 2 d') cur,rfl,hg,?_,hnc,hcm,tH,?_⟩⟩
  ·have hgl:g<w.heap.size:=AO.lt hh;rw [oU,Array.getElem?_append_left (by simpa using hgl),Array.getElem?_modify,AZ rfl,hh];rfl
  ·apply lZ;intro j;rw [List.getElem?_take];by_cases hj:j<sl.length*2
   ·rw [AZ hj,hfd];have hjc:j<cur.size:=by rw [hcs];have:=lq 2 hnc;omega
    have hjd:j<d'.size*2:=by rw [hd'];exact hj
    have e1:(putCells id 0 (flatK (fun x:{s:Rn // s=s}=>GZ x.1) 2 d') cur).toList[j]? = some (flatK (fun x:{s:Rn // s=s}=>GZ x.1) 2 d')[j]! := by
     simp [putCells,hjc,hjd]
    rw [e1,aZ _ 2 hkk _ j hjd,List.getElem!_eq_getElem?_getD]
    have:j<(d'.toList.flatMap fun x=>GZ x.1).length:=by rw [<- hfd,hln];exact hj
    rw [Dh this];rfl
   · rw [AX hj,YN (by rw [hln];omega)]
theorem awU {P:Program} (w:World) (base:Nat) (t ty e:TypeId) (i:TypeInfo) (size:Nat) (ht:P.underlying t=some (.slice e)) (hi:P.info? e=some i) (hsize:i.size=size) (hsz:0<size)
  (v:Value) (n:Nat) (xs:List Value) (hown:w.ownsRow base e size v n xs) (src:Value) (news:List Value) (hs:Sl w src n news) (hl:news.length=n*size) (h1:∀ u∈news,u.oneCell'=true) :
  ∃ w',(Builtin.copy_ #[t,t] ty #[v,src]).run P w=.ok (goInt n) w'/\w'.ownsRow base e size v n news/\w.grownBy w' v.ownBlock:=by
 obtain ⟨A,c,rfl,-,-,hr⟩:=hs;have hlz:∀ (x:Addr),(loadCells x 0).run P w=.ok #[] w:=fun x=>by simpa using run_loadCells_list (P:=P) w x [] Ak
 have zero:n=0->∀ d cap,v=.slice d 0 cap->∃ w',(Builtin.copy_ #[t,t] ty #[v,.slice A n c]).run P w=.ok (goInt n) w'/\w'.ownsRow base e size v n news/\w.grownBy w' v.ownBlock:=by
  intro hn d cap hv;subst hn;have hnews:news=[]:=lu (by simpa using hl);subst hnews;have hxs:xs=[]:=lu (by have:=hown.1;simpa using this);subst hxs;refine ⟨w,?_,hown,World.grownBy.refl _ _⟩;rw [hv]
  cases d<;>cases A<;>simp [Builtin.copy_,run_underlying ht,Builtin.lenOf,Builtin.firstCells,sizeOf,typeInfo,hi,storeCells,hlz]
 rcases hown.2 with ⟨rfl,h0⟩ | ⟨g,cap,cur,rfl,hg,hh,hnc,hcm,hcs,hx⟩
 · exact zero h0 none 0 rfl
 ·rcases YG n with h0 | h0
  · subst h0;exact zero rfl _ _ rfl
  ·have hne:news≠[]:=fun e0=>by
    rw [e0] at hl;have:=Nat.mul_pos h0 hsz
    simp at hl;omega
   obtain ⟨b,o,rfl,-,hc⟩:=hr hne;have hsrc:∀ j u,news[j]? = some u->w.cell? ((⟨b,o,none⟩:Addr).add j)=some u:=fun j u hu=>Row.at0 (xs:=news) (fun _=>⟨b,o,rfl,by
    obtain ⟨b',o',e',hb',-⟩:=hr hne;injection e' with e';injection e' with e1 _ _;subst e1;exact hb',hc⟩) j u hu
   have hfit:0+news.length<=cur.size:=by rw [hl,hcs,Qm];exact lq _ hnc
   have hld:=run_loadCells_list (P:=P) w ⟨b,o,none⟩ news hsrc;have hst:=run_storeCells_at P g 0 e news 0 cur w hh (by simpa using hfit) h1;refine ⟨w.setRow g (cur.toList.take 0++news++cur.toList.drop (0+news.length)).toArray,?_,?_,?_⟩
   ·have hmul:n*i.size=news.length:=by rw [hl,hsize]
    simp [Builtin.copy_,run_underlying ht,Builtin.lenOf,Builtin.firstCells,sizeOf,typeInfo,hi,hmul,hld,hst]
   ·refine ⟨hl,.inr ⟨g,cap,_,rfl,hg,setRow_heap w g cur _ e _ hh,hnc,hcm,?_,?_⟩⟩
    ·simp;omega
    · simp [<- hl]
   · exact ⟨rfl,rfl,rfl,by simp [World.setRow],fun k hk hne=>setRow_other w g k _ (fun e=>hne (by rw [e];rfl))⟩
theorem awV {P:Program} (w:World) {ops:Array Oper} {rest:List Oper} {o:Oper} {a:Act} {Q:Exit->Act->World->Prop} (hgd:o.guard=none) (s x:Operand) (t:TypeId)
  (ho:o.op=.call {callee:=.builtin .copy,args:=#[s,x],argTypes:=#[t,t]})
  {α:Type} {f:α->List Value} {base:Nat} {e:TypeId} {size bytes:Nat} (hE:Elem P t e size bytes) (hf:∀ a,(f a).length=size) (hone:∀ a,∀ u∈f a,u.oneCell'=true)
  {v:Value} {n:Nat} {xs:List Value} (hs:a.eval s=v) (hown:w.ownsRow base e size v n xs)
  {src:Value} {l:List α} (hn:n=l.length) (hx:a.eval x=src) (hr:Sl w src l.length (l.flatMap f))
  (h:∀ w',Own w' base e size f v l->w.grownBy w' v.ownBlock->wpList P ops Q rest (a.put o.dst (goInt l.length)) w'):wpList P ops Q (o::rest) a w:=by
 subst hn;obtain ⟨ht,i,z,hi,hz,hsize,hby,hzs,hsz⟩:=hE;refine wpList_plain hgd fun K hK=>?_;obtain ⟨w',hrun,h2,h3⟩:=awU (P:=P) w base t o.type e i size ht hi hsize hsz v l.length xs hown src (l.flatMap f) hr (flat_length f size hf l) (fun u hu=>by
  obtain ⟨a,_,hu⟩:=Gf.1 hu;exact hone a u hu)
 unfold Oper.wp execOp;simp only [ho,resolve,invoke,builtin,Sem.run_bind,Sem.run_pure,Result.andThen_ok,List.map_toArray,FM,QD,hs,hx,hrun];exact hK _ _ (h w' h2 h3)
open Go.RowKit Go.Sort
def lK (w:World) (v:Value) (l:List Rn):Prop:=Sl w v l.length (l.flatMap GZ)
theorem lK.mono {w w':World} {v:Value} {l:List Rn} (h:lK w v l) (hb:AU w w'):lK w' v l:=Sl.mono h hb
theorem Row.rn {w:World} {A:Option Addr} {l:List Rn} (h:Row w A (l.flatMap GZ)) {k:Nat} (hk:k<l.length) :
  ∃ b o,A=some ⟨b,o,none⟩/\b<w.heap.size/\w.cell? ⟨b,o+k*2,none⟩=some (.int .i64 l[k].lo)/\w.cell? ⟨b,o+k*2+1,none⟩=some (.int .i64 l[k].hi):=by
 obtain ⟨b,o,hA,hb,hc⟩:=h.at_ (n:=2) (fun _=>rfl) hk AB;exact ⟨b,o,hA,hb,hc 0 _ rfl,hc 1 _ rfl⟩
theorem Own.ald {α:Type} {f:α->List Value} {w:World} {base:Nat} {e:TypeId} {size:Nat} {A:Option Addr} {n c:Nat} {l:List α} (h:Own w base e size f (.slice A n c) l):Row w A (l.flatMap f):=by
 obtain ⟨A',c',he,-,-,hr⟩:=h.sl;injection he with e1 e2 e3;subst e1;exact hr
theorem Own.lM {w:World} {B:Nat} {A:Option Addr} {n c:Nat} {L:List Rn} (h:Own w B 121 2 GZ (.slice A n c) L) (hl:0<L.length):∃ g,A=some ⟨g,0,none⟩/\B<=g/\g<w.heap.size/\(∀ j,w.frozen? ⟨g,j,none⟩=false) /\
  ∀ k (hk:k<L.length),w.cell? ⟨g,k*2,none⟩=some (.int .i64 L[k].lo)/\w.cell? ⟨g,k*2+1,none⟩=some (.int .i64 L[k].hi):=by
 have hr:=h.ald;rcases h.2 with ⟨_,h0⟩ | ⟨g,cap,cur,hv,hg,hh,-⟩
 · omega
 ·injection hv with e1 e2 e3;subst e1;refine ⟨g,rfl,hg,AO.lt hh,fun j=>AO.frozen hh j,fun k hk=>?_⟩;obtain ⟨b,o,Eo,-,c0,c1⟩:=Row.rn hr hk;injection Eo with Eo;injection Eo with y1 y2 _;subst y1 y2;rw [Qm] at c0 c1;exact ⟨c0,c1⟩
def aeX (w:World) (l:List Rn) (e:Ending) (w':World):Prop:=∃ A c,e=.returned (.slice A l.length c)/\Own w' w.heap.size 121 2 GZ (.slice A l.length c) l/\AU w w'
theorem awW (out:List Rn) (r:Rn):(U9 out r).length<=out.length+1:=by
 unfold U9;split
 · omega
 ·split
  · rw [OD];omega
  · simp
def Nw (l:List Rn) (k:Nat):List Rn:=(l.take k).foldl U9 []
theorem ale {l:List Rn} {k:Nat} (hk:k<l.length):Nw l (k+1)=U9 (Nw l k) l[k]:=by
 unfold Nw;rw [F7 hk,Oi];rfl
theorem aeY (l:List Rn):∀ k,(Nw l k).length<=k
 | 0=>by simp [Nw]
 | k+1=>by
  have ih:=aeY l k;by_cases hk:k<l.length
  ·rw [ale hk];have:=awW (Nw l k) l[k]
   omega
  ·have:Nw l (k+1)=Nw l k:=by unfold Nw;rw [IQ AB,IQ AB]
   rw [this];omega
theorem alf (v:Value) (l:List Rn) (w:World) (h:lK w v l) (hl:l.length<=100000):Calls Tryz.prog 254 #[v] w (aeX w (Pz l)):=by
 have PY:=AA (@awT);have aeZ:=AA (fun m (hp:m.Perm l) hs=>auj (l:=l) (m:=m) hp hs);obtain ⟨A,c,rfl,hn1,hn2,hR⟩:=h;unfold maxLen at hn2;have HR:=AA (show lK w (.slice A l.length c) l from ⟨A,c,rfl,hn1,tC,hR⟩);obtain ⟨R,hRr⟩:=BN (Pz l);rw [hRr] at aeZ ⊢;clear hR hRr;go_enter Tryz.func254,Tryz.ntmps254;go_upto_region 2 with
  (at_make
   obtain ⟨ht_,i_,z_,hi_,hz_,alg,alh,awX,awY⟩:=ZR;refine wpList_make_full _ rfl (.tmp 8) (.tmp 8) _ rfl w.heap.size _ i_ z_ 2 ht_ hi_ hz_ alg .i64 .i64 _ _ l.length rfl rfl rfl rfl (by rw [alh];omega) (DN AB) (Dc _) ?_;intro w1 ho1 hg1;have Hg:=AA ho1;have HB1:=AA (bG (bR w) hg1 (fun k hk=>by cases hk));clear ho1 hg1 ht_ hi_ hz_ alg alh awX awY)
 generalize (madeCells z_.cells (l.length*2)).toList=zs at *;go_upto_region 3 with
  (refine awV _ rfl (.tmp 10) (.tmp 11) _ rfl ZR YC ZQ rfl Hg.out (l:=l) rfl rfl (HR.out.mono HB1.out) ?_
   intro w2 ho2 hg2;have F9:=AA ho2;have HB2:=AA (bG HB1.out hg2 (fun k hk=>(Hg.out.lt k hk).1));clear ho2 hg2)
 go_wp2_with fail;refine (PY.out w.heap.size _ l _ F9.out AB).mono ?_;rintro e w3 ⟨rfl,m,hp,hs,ho3,hg3⟩;have hm:=aeZ.out m hp (hs.imp (fun {a b} g=>by rw [oV (fun x:Rn=>x.lo),Iy] at g;omega));have hml:m.length=l.length:=hp.length_eq;have HM:=AA hm;have HB3:=AA (bG HB2.out hg3 (fun k hk=>(F9.out.lt k hk).1));have hsl:=ho3.sl;rw [hml] at hsl;have Po:=AA hsl;have azv:m.length<=100000:=by omega
 have HLm:=AA hml;have hz3:=HB3.out.size;clear aeZ PY HR Hg HB1 F9 HB2 hp hs ho3 hg3 hm hsl hml;go_upto_block 0 with fail;go_wp2_with fail;go_loopw [2,17] (fun s i wr=>∃ k:Nat,k<=l.length/\i=.int .i64 k/\(∃ A c,s=.slice A (Nw m k).length c)/\Own wr w3.heap.size 121 2 GZ s (Nw m k)/\AU w3 wr) (fun _ i _=>l.length-(intOf i).toNat)
 case atStart => exact ⟨0,Bv _,rfl,⟨none,0,rfl⟩,Own.nil _ _ _ _ _,bR w3⟩
 case round =>
  obtain ⟨k,hk,rfl,⟨A',c',rfl⟩,ho,hb⟩:=hrel;obtain ⟨wo,rfl⟩:=BR wr;have HO:=AA ho;have HB:=AA hb;have aCl:=hb.size;clear ho hb;by_cases hlt:k<l.length
  ·have hkm:k<m.length:=by have:=HLm.out;omega
   have hsu:=ale hkm;have Uw:=aeY m k;obtain ⟨A3,c3,he3,-,-,hR3⟩:=Po.out.mono HB.out;injection he3 with y1 y2 y3;subst y1;clear y2 y3;obtain ⟨b,o,Eo,hlb,c0,c1⟩:=Row.rn hR3 hkm;injection Eo with Eo;injection Eo with y1 y2 _;subst y1 y2;simp only [Qm] at c0 c1;generalize m[k]=r at *;obtain ⟨Q,hQ⟩:=BN (Nw m k);rw [hQ] at HO hsu Uw ⊢;have QZ:=AA hsu;have HQe:=AA hQ;have k1:(k:Int)<l.length:=by omega
   have k2:0<=(k:Int):=by omega
   clear hsu hQ hR3;by_cases e1:r.hi<=r.lo
   ·have hq:Nw m (k+1)=Q:=by rw [QZ.out];unfold U9;rw [AZ e1]
    have OO:=AA hq;have XB:=AA (bA HB.out (.cells #[.int .i64 r.lo,.int .i64 r.hi] 121));have HOa:=AA (Own.alloc HO.out (.cells #[.int .i64 r.lo,.int .i64 r.hi] 121));clear hq;go_wp2;go_roundw
    case rel => exact ⟨k+1,AB,BJ,⟨A',c',by rw [OO.out]⟩,by rw [OO.out];exact HOa.out,XB.out⟩
    case measure => exact BL
   ·have hn1:IntKind.i64.wrap ((Q.length:Int)-1)=(Q.length:Int)-1:=D6 _ AB;go_upto_region 10 with fail;obtain ⟨W2,hW2⟩:∃ W:World,W=wo.alloc (.cells #[.int .i64 r.lo,.int .i64 r.hi] 121):=⟨_,rfl⟩;have hA1:AU wo W2:=by rw [hW2];exact bA (bR wo) _
    obtain ⟨g5,hg5⟩:=BN wo.heap.size;have X5:AO W2 g5 121 #[.int .i64 r.lo,.int .i64 r.hi]:=by rw [hW2];exact AO.made hg5.symm _ _
    have F9:=AA (HO.out.keep hA1);have HB2:=AA (bT HB.out hA1);have DI:=AA X5;have hgl:=fun q hq=>(HO.out.lt q hq).2;rw [<- hW2]
    try rw [hg5]
    clear hW2 hA1 c0 c1 hlb HO HB;obtain ⟨CJ,CO,CS,-,-⟩:=X5.BQ;rcases YG Q.length with h0 | h0
    ·have hq:Nw m (k+1)=Q++[r]:=by rw [QZ.out,lu h0];unfold U9;rw [AX e1,AX Ak]
     have OO:=AA hq;have kq:¬ (1:Int)<=(Q.length:Int):=by omega
     clear h0 hq hn1;refine DJ (W2) (.run 13 0 0 (.done)) fun CU QR Ae Ah hS=>?_
     iterate 3 refine Aj ?_
     iterate 8 refine Jh ?_
     iterate 2 refine Aj ?_
     refine DF ?_;clear hS Ah Ae;intro hB;obtain ⟨W3,hW3⟩:∃ W:World,W=W2.drew:=⟨_,rfl⟩;rw [<- hW3] at hB ⊢;have F5:=AA (F9.out.keep hB);have lN:=AA (bT HB2.out hB);have IX:=AA (DI.out.keep hB);clear hB hW3 X5 CJ CO CS DI F9 HB2;have hsh:(Q++[r]).length=Q.length+1:=by simp
     have DW:=AA hsh;have X5:=IX.out;clear hsh
     try clear CJ CO CS
     obtain ⟨CJ,CO,CS,-,-⟩:=X5.BQ;go_wp2_with
      (at_builtin
       refine FK _ rfl (.tmp 24) (.tmp 26) _ rfl (base:=w3.heap.size) ZR YC ZQ rfl (Own.alloc F5.out _) rfl (l2:=[r]) (Sl.lit (n:=1) (AO.made rfl _ _) rfl (DN AB)) DZ DZ (by have:=lN.out.size;simp;omega) ?_;intro v4 w4 Jk hg4 bV;obtain ⟨A4,c4,hv4,-⟩:=Jk.sl;rw [DW.out] at hv4;subst hv4;have JH:=AA Jk;have HB4:=AA (bG (bA lN.out _) hg4 (fun g hg=>(F5.out.lt g hg).1));clear Jk hg4 bV
       )
     go_roundw
     case rel => exact ⟨k+1,AB,BJ,⟨A4,c4,by rw [OO.out,DW.out]⟩,by rw [OO.out];exact JH.out,HB4.out⟩
     case measure => exact BL
    ·obtain ⟨n,hn⟩:∃ n,Q.length=n+1:=⟨Q.length-1,AB⟩;have hnl:n<Q.length:=by omega
     have hq1:(Q.length:Int)-1=(n:Int):=by omega
     have hgd:Q.getD (Q.length-1) aa8=Q[n]:=by
      rw [hn,Fj,show n+1-1=n by omega,Dh hnl];rfl
     have aea:Q.length-1=n:=by omega
     have hsu:=QZ.out;unfold U9 at hsu;rw [AX e1,hgd,aea] at hsu;rw [hq1];obtain ⟨gQ,hgA,hgQ,azw,hfz,hce⟩:=Own.lM F9.out h0;subst hgA;obtain ⟨d0,d1⟩:=hce n hnl;have hf1:=hfz (n*2+1);have kq:(0:Int)<=(n:Int):=by omega
     have kn:(n:Int)<(Q.length:Int):=by omega
     have hq5:¬ gQ=g5:=by
      have:=hgl gQ rfl
      omega
     obtain ⟨z,hz⟩:=BN (Q[n]);rw [hz] at d0 d1 hsu;by_cases e2:r.lo<=z.hi
     ·rw [AZ ⟨h0,e2⟩] at hsu;have OO:=AA hsu;have HZ:=AA hz;clear hsu hgd aea hn hce hfz hz h0 hn1;refine DJ (W2) (.run 13 0 0 (.done)) fun CU QR Ae Ah hS=>?_
      iterate 3 refine Aj ?_
      iterate 8 refine Du ?_
      iterate 2 refine Aj ?_
      refine DF ?_;clear hS Ah Ae;intro hB;obtain ⟨W3,hW3⟩:∃ W:World,W=W2.drew:=⟨_,rfl⟩;rw [<- hW3] at hB ⊢;have F5:=AA (F9.out.keep hB);have lN:=AA (bT HB2.out hB);have IX:=AA (DI.out.keep hB);clear hB hW3 X5 CJ CO CS DI F9 HB2 d0 d1 hf1;obtain ⟨g',hgA,-,azx,ali,alj⟩:=Own.lM F5.out AB;injection hgA with hgA;injection hgA with hgA _ _;subst hgA;obtain ⟨-,d1⟩:=alj n hnl;rw [HZ.out] at d1;have hf1:=ali (n*2+1);obtain ⟨mx,hmx⟩:=BR (max z.hi r.hi);have hset:=Own.bn YC F5.out hnl (j:=1) AB ⟨z.lo,mx⟩ (.int .i64 mx) (by rw [HZ.out];rfl);have RZ:=AA (show Own (W3.setCell ⟨gQ,n*2+1,none⟩ (.int .i64 mx)).drew w3.heap.size 121 2 GZ (.slice (some ⟨gQ,0,none⟩) Q.length c') (Q.set n ⟨z.lo,mx⟩) from hset);have oM:=AA (bD (bS (p:=⟨gQ,n*2+1,none⟩) lN.out hgQ (.int .i64 mx)));have hq:=OO.out;rw [<- hmx] at hq;have qm:=AA hq;have Hmx:=AA hmx;have X5:=IX.out;clear hset hmx hq alj ali OO
      try clear CJ CO CS
      obtain ⟨CJ,CO,CS,-,-⟩:=X5.BQ;have nq5:¬ some g5=some gQ:=fun e=>hq5 (Dq e).symm;go_upto_region 11 with fail;refine UY (W3) (some gQ) (.run 6 0 0 (.take 7 191 (.take 8 447 (.call 6 511 (.run 3 9 511 (.call 12 8191 (.done))))))) fun CU QR Ae Ah hS=>?_
      iterate 8 refine Aj ?_
      refine Bj ?_;clear hS;intro K hK AQ;go_simp;refine hK.out _ _ AQ.out (fun hS=>?_);clear hK K AQ
      try simp only [pu]
      iterate 3 refine Aj ?_
      refine Bj ?_;clear hS;intro K hK AQ;go_simp;refine hK.out _ _ (by first | exact gS AQ.out _ _ | (unfold JU;have Rf:World.grownBy _ _ _:=AQ.out;repeat (first | with_reducible assumption | with_reducible exact World.grownBy.refl _ _ | with_reducible refine gS ?_ _ _ | with_reducible refine gD ?_ | with_reducible refine gA ?_ _))) (fun hS=>?_);clear hK K AQ
      try simp only [pu]
      refine Qq ?_;clear hS Ah Ae;intro hB;rw [<- Hmx.out];go_wp2;go_roundw
      case rel => exact ⟨k+1,AB,BJ,⟨some ⟨gQ,0,none⟩,c',by rw [qm.out,OD]⟩,by rw [qm.out];exact RZ.out,oM.out⟩
      case measure => exact BL
     ·rw [AX (fun g=>e2 g.2)] at hsu;have OO:=AA hsu;clear hsu hgd aea hn hce hfz hz h0 hn1;refine DJ (W2) (.run 13 0 0 (.done)) fun CU QR Ae Ah hS=>?_
      iterate 3 refine Aj ?_
      iterate 8 refine Du ?_
      iterate 2 refine Aj ?_
      refine DF ?_;clear hS Ah Ae;intro hB;obtain ⟨W3,hW3⟩:∃ W:World,W=W2.drew:=⟨_,rfl⟩;rw [<- hW3] at hB ⊢;have F5:=AA (F9.out.keep hB);have lN:=AA (bT HB2.out hB);have IX:=AA (DI.out.keep hB);clear hB hW3 X5 CJ CO CS DI F9 HB2;have hsh:(Q++[r]).length=Q.length+1:=by simp
      have DW:=AA hsh;have X5:=IX.out;clear hsh
      try clear CJ CO CS
      obtain ⟨CJ,CO,CS,-,-⟩:=X5.BQ;go_wp2_with
       (at_builtin
        refine FK _ rfl (.tmp 24) (.tmp 26) _ rfl (base:=w3.heap.size) ZR YC ZQ rfl (Own.alloc F5.out _) rfl (l2:=[r]) (Sl.lit (n:=1) (AO.made rfl _ _) rfl (DN AB)) DZ DZ (by have:=lN.out.size;simp;omega) ?_;intro v4 w4 Jk hg4 bV;obtain ⟨A4,c4,hv4,-⟩:=Jk.sl;rw [DW.out] at hv4;subst hv4;have JH:=AA Jk;have HB4:=AA (bG (bA lN.out _) hg4 (fun g hg=>(F5.out.lt g hg).1));clear Jk hg4 bV
        )
      go_roundw
      case rel => exact ⟨k+1,AB,BJ,⟨A4,c4,by rw [OO.out,DW.out]⟩,by rw [OO.out];exact JH.out,HB4.out⟩
      case measure => exact BL
  ·have hkk:Nw m k=R:=by
    have:=HLm.out
    rw [<- HM.out];unfold Nw jc;rw [IQ AB]
   have RV:=AA (show Own wo w.heap.size 121 2 GZ (.slice A' (Nw m k).length c') (Nw m k) from HO.out.ES hz3);rw [hkk] at RV;generalize Nw m k=Q at *;subst hkk;clear HO;go_wp2;go_ret;exact ⟨A',c',rfl,RV.out,bT HB3.out HB.out⟩
structure XF (w w':World) (g:Nat) (r:Option Nat):Prop where
 size:w.heap.size<=w'.heap.size
 blk:∀ g1,g1<w.heap.size->g1≠g->r≠some g1->w'.heap[g1]? = w.heap[g1]?
theorem XF.refl (w:World) (g:Nat) (r:Option Nat):XF w w g r:=⟨Dc _,fun _ _ _ _=>rfl⟩
theorem XF.keep {w w':World} {g:Nat} {r:Option Nat} (h:XF w w' g r) {g1:Nat} {t:TypeId} {cs:Array Value} (hb:AO w g1 t cs) (h1:g1≠g) (h2:r≠some g1):AO w' g1 t cs:=(h.blk g1 hb.lt h1 h2).trans hb
theorem XF.own {w w':World} {g:Nat} {r:Option Nat} (h:XF w w' g r) {α:Type} {B:Nat} {e:TypeId} {n:Nat} {f:α->List Value} {v:Value} {l:List α} (ho:Own w B e n f v l) (h1:v.ownBlock≠some g) (h2:∀ k,v.ownBlock=some k->r≠some k):Own w' B e n f v l:=by
 obtain ⟨h0,h3⟩:=ho;refine ⟨h0,?_⟩;rcases h3 with h3 | ⟨q,cap,cur,rfl,a1,a2,a3⟩
 · exact .inl h3
 · exact .inr ⟨q,cap,cur,rfl,a1,XF.keep h (cs:=cur) a2 (fun e=>h1 (by rw [e];rfl)) (h2 q rfl),a3⟩
def NewAt (w:World) (v v':Value):Prop:=v'.ownBlock=v.ownBlock\/∃ k,v'.ownBlock=some k/\w.heap.size<=k
theorem awZ (lo hi:Int) (B g:Nat) (l:List Rn) (v:Value) (w:World) (h:YD w B g l v) (hB:B<=w.heap.size) (hl:l.length<=4000000000) :
  Calls Tryz.prog 253 #[.int .i64 lo,.int .i64 hi,.pointer (some ⟨g,0,none⟩)] w fun e w'=>e=.returned (.tuple #[])/\(∃ v',YD w' B g (l++JJ lo hi) v'/\NewAt w v v')/\XF w w' g v.ownBlock/\∀ w0:World,AU w0 w->w0.heap.size<=B->w0.heap.size<=g->AU w0 w':=by
 obtain ⟨X4,own⟩:=h;obtain ⟨A,c,rfl,-⟩:=Own.sl own;have D8:=AA X4;have HO:=AA own;have n4:=Own.Dz own X4 Aw;clear own;unfold JJ;by_cases hlt:lo<hi
 ·rw [AZ hlt];obtain ⟨BZ,Bl,EG⟩:=X4.Fb;go_enter Tryz.func253,Tryz.ntmps253;have hsh:(l++[(⟨lo,hi⟩:Rn)]).length=l.length+1:=by simp
  have DW:=AA hsh;clear hsh;go_wp2_with
   (at_builtin
    refine FK _ rfl (.tmp 8) (.tmp 12) _ rfl (base:=B) ZR YC ZQ rfl (Own.alloc HO.out _) rfl (l2:=[(⟨lo,hi⟩:Rn)]) (Sl.lit (n:=1) (AO.made rfl _ _) rfl (DN AB)) DZ DZ DT ?_;intro v3 w3 ho3 hg3 LK;obtain ⟨A3,c3,hv3,-⟩:=ho3.sl;rw [DW.out] at hv3;subst hv3;have F5:=AA ho3;have Q8:=AO.grown (D8.out.alloc _) hg3 (fun e=>n4 e.symm);have qM:=AA Q8;have HN3:=AA (Own.Dz ho3 Q8 Aw);have HAt:=AA (show NewAt w (.slice A l.length c) (.slice A3 (l.length+1) c3) from LK.imp id (fun e=>⟨_,e,Ak⟩));have HK:=AA (show XF w (w3.setCell ⟨g,0,none⟩ (.slice A3 (l.length+1) c3)) g (Value.slice A l.length c).ownBlock from ⟨by have:=hg3.size;simp at this;simp;omega,fun g1 h1 h2 h3=>by
     have h4:=hg3.block g1 DT (fun e=>h3 e.symm);rw [Below.heap_setCell w3 ⟨g,0,none⟩ _ g1 h2,h4];exact Below.heap_alloc w _ g1 h1⟩)
    have HB3:=AA (show ∀ w0:World,AU w0 w->w0.heap.size<=B->w0.heap.size<=g->AU w0 (w3.setCell ⟨g,0,none⟩ (.slice A3 (l.length+1) c3)) from fun w0 h1 h2 h3=>bS (p:=⟨g,0,none⟩) (bG (bA h1 _) hg3 (fun k hk=>EH h2 (HO.out.lt k hk).1)) h3 _);clear ho3 hg3 LK X4 BZ Bl EG;obtain ⟨gG,gI,gJ⟩:=Q8.Fb
    )
  have HF:=AA (show YD (w3.setCell ⟨g,0,none⟩ (.slice A3 (l.length+1) c3)) B g (l++[(⟨lo,hi⟩:Rn)]) (.slice A3 (l.length+1) c3) from ⟨qM.out.EI 0 _,F5.out.far HN3.out _⟩);exact bodyPost_end (v:=.tuple #[]) (results_none rfl _ _ _) rfl ⟨rfl,⟨_,HF.out,HAt.out⟩,HK.out,HB3.out⟩
 ·rw [AX hlt,JA];go_enter Tryz.func253,Tryz.ntmps253;go_wp2_with fail;exact bodyPost_end (v:=.tuple #[]) (results_none rfl _ _ _) rfl ⟨rfl,⟨_,⟨D8.out,HO.out⟩,.inl rfl⟩,XF.refl _ _ _,fun w0 h1 _ _=>h1⟩
structure awc (w:World) (B g:Nat) (l:List Int) (v:Value):Prop where
 box:AO w g 24 #[v]
 own:Own w B 3 1 DR v l
structure Sr (w:World) (B g1 g2 g3:Nat) (y:Int) (T:List Rn) (C:List Int) (vt vc:Value):Prop where
 row:AO w g1 3 #[.int .i64 y]
 tkn:YD w B g2 T vt
 Kz:awc w B g3 C vc
theorem Sr.keep {w w':World} {B g1 g2 g3:Nat} {y:Int} {T:List Rn} {C:List Int} {vt vc:Value} (h:Sr w B g1 g2 g3 y T C vt vc) (hb:AU w w'):Sr w' B g1 g2 g3 y T C vt vc :=
 ⟨h.row.keep hb,h.tkn.keep hb,h.Kz.box.keep hb,h.Kz.own.keep hb⟩
structure J9 (B g2 g3:Nat) (W W':World):Prop where
 below:∀ w0:World,AU w0 W->w0.heap.size<=B->w0.heap.size<=g2->w0.heap.size<=g3->AU w0 W'
 size:W.heap.size<=W'.heap.size
 blk:∀ g,g<B->g≠g2->g≠g3->W'.heap[g]? = W.heap[g]?
theorem J9.refl (B g2 g3:Nat) (W:World):J9 B g2 g3 W W:=⟨fun _ h _ _ _=>h,Dc _,fun _ _ _ _=>rfl⟩
theorem J9.trans {B g2 g3:Nat} {W W' W'':World} (h:J9 B g2 g3 W W') (h':J9 B g2 g3 W' W''):J9 B g2 g3 W W'' :=
 ⟨fun w0 k0 k1 k2 k3=>h'.below w0 (h.below w0 k0 k1 k2 k3) k1 k2 k3,EH h.size h'.size,fun g k1 k2 k3=>(h'.blk g k1 k2 k3).trans (h.blk g k1 k2 k3)⟩
theorem J9.of {B g2 g3:Nat} {W W':World} (hB:B<=W.heap.size) (h:AU W W'):J9 B g2 g3 W W' :=
 ⟨fun w0 k0 _ _ _=>bT k0 h,h.size,fun g k1 _ _=>h.block g (LW k1 hB)⟩
theorem J9.keep {B g2 g3:Nat} {W W':World} (h:J9 B g2 g3 W W') {g:Nat} {t:TypeId} {cs:Array Value} (hb:AO W g t cs) (h1:g<B) (h2:g≠g2) (h3:g≠g3):AO W' g t cs:=(h.blk g h1 h2 h3).trans hb
theorem Sr.afQ {w w3:World} {B g1 g2 g3:Nat} {y:Int} {T T2:List Rn} {C:List Int} {vt vc vt2:Value} {o:Obj} (h:Sr w B g1 g2 g3 y T C vt vc) (hB:B<=w.heap.size) (hg:(w.alloc o).grownBy w3 vt.ownBlock) (ho:Own w3 B 121 2 GZ vt2 T2) :
  Sr (w3.setCell ⟨g2,0,none⟩ vt2) B g1 g2 g3 y T2 C vt2 vc/\J9 B g2 g3 w (w3.setCell ⟨g2,0,none⟩ vt2):=by
 have X2:=AO.grown (h.tkn.box.alloc o) hg (fun e=>Own.Dz h.tkn.own h.tkn.box Aw e.symm);have X1:=AO.grown (h.row.alloc o) hg (fun e=>Own.Dz h.tkn.own h.row Aw e.symm);have X3:=AO.grown (h.Kz.box.alloc o) hg (fun e=>Own.Dz h.tkn.own h.Kz.box Aw e.symm);have O3:=Own.grown (Own.alloc h.Kz.own o) hg (fun g hg=>Own.apart h.Kz.own h.tkn.own Aw g hg);refine ⟨⟨X1.far (p:=⟨g2,0,none⟩) (AO.Me X1 X2 Aw) _,⟨X2.EI 0 _,ho.far (p:=⟨g2,0,none⟩) (Own.Dz ho X2 Aw) _⟩,⟨X3.far (p:=⟨g2,0,none⟩) (AO.Me X3 X2 Aw) _,O3.far (p:=⟨g2,0,none⟩) (Own.Dz O3 X2 Aw) _⟩⟩,fun w0 k1 k2 k3 _=>?_,?_,fun g k1 k2 _=>?_⟩
 · exact bS (p:=⟨g2,0,none⟩) (bG (bA k1 _) hg (fun k hk=>EH k2 (h.tkn.own.lt k hk).1)) k3 _
 · have:=hg.size;simp at this;simp;omega
 ·rw [Below.heap_setCell w3 ⟨g2,0,none⟩ _ g k2,hg.block g DT (fun e=>by have:=(h.tkn.own.lt g e.symm).1;omega)];exact Below.heap_alloc w _ g AB
theorem Sr.awd {w w3:World} {B g1 g2 g3:Nat} {y:Int} {T:List Rn} {C C2:List Int} {vt vc zM:Value} {o:Obj} (h:Sr w B g1 g2 g3 y T C vt vc) (hB:B<=w.heap.size) (hg:(w.alloc o).grownBy w3 vc.ownBlock) (ho:Own w3 B 3 1 DR zM C2) (hn:vc.ownBlock≠some g1) (hn2:zM.ownBlock≠some g3) :
  Sr (w3.setCell ⟨g3,0,none⟩ zM) B g1 g2 g3 y T C2 vt zM/\J9 B g2 g3 w (w3.setCell ⟨g3,0,none⟩ zM):=by
 have X3:=AO.grown (h.Kz.box.alloc o) hg (fun e=>Own.Dz h.Kz.own h.Kz.box Aw e.symm);have X1:=AO.grown (h.row.alloc o) hg (fun e=>hn e.symm);have X2:=AO.grown (h.tkn.box.alloc o) hg (fun e=>Own.Dz h.Kz.own h.tkn.box Aw e.symm);have O2:=Own.grown (Own.alloc h.tkn.own o) hg (fun g hg=>Own.apart h.tkn.own h.Kz.own Aw g hg);refine ⟨⟨X1.far (p:=⟨g3,0,none⟩) (AO.Me X1 X3 Aw) _,⟨X2.far (p:=⟨g3,0,none⟩) (AO.Me X2 X3 Aw) _,O2.far (p:=⟨g3,0,none⟩) (Own.Dz O2 X3 Aw) _⟩,⟨X3.EI 0 _,ho.far (p:=⟨g3,0,none⟩) hn2 _⟩⟩,fun w0 k1 k2 _ k3=>?_,?_,fun g k1 _ k2=>?_⟩
 · exact bS (p:=⟨g3,0,none⟩) (bG (bA k1 _) hg (fun k hk=>EH k2 (h.Kz.own.lt k hk).1)) k3 _
 · have:=hg.size;simp at this;simp;omega
 ·rw [Below.heap_setCell w3 ⟨g3,0,none⟩ _ g k2,hg.block g DT (fun e=>by have:=(h.Kz.own.lt g e.symm).1;omega)];exact Below.heap_alloc w _ g AB
def awe (W:World) (B g1 g2 g3:Nat) (y:Int) (T:List Rn) (C:List Int) (e:Ending) (W':World):Prop :=
 e=.returned (.tuple #[])/\(∃ vt vc,Sr W' B g1 g2 g3 y T C vt vc)/\J9 B g2 g3 W W'
theorem alk {u v:Int} (hu:-2097152<=u/\u<=2097152) (hv:-2097152<=v/\v<=2097152):-4398046511104<=u*v/\u*v<=4398046511104:=by
 have h1:=aAR hv.2 (show (0:Int)<=2097152 by omega);rcases Zp 0 u with h | h
 ·have a1:=aAR hv.2 h;have a2:=aAR hv.1 h;omega
 ·have a1:=afm h hv.1;have a2:=afm h hv.2;omega
theorem awf {t d H D:Int} (hH:0<H) (h0:0<=t) (h1:t<=H) (hd:-D<=d/\d<=D):-D<=Sj (t*d) H/\Sj (t*d) H<=D:=by
 have hD:0<=D:=by omega
 constructor
 ·have h2:¬ Sj (t*d) H<=-D-1:=by
   rw [zA hH];have a1:t*(-D)<=t*d:=aAR hd.1 h0;have a2:t*D<=H*D:=abb h1 hD;have a3:(-D-1)*H=-(H*D)-H:=by rw [Int.sub_mul,Oh,Int.one_mul,KP D H]
   have a4:t*(-D)=-(t*D):=by rw [aAE]
   omega
  omega
 ·rw [zA hH];have a1:t*d<=t*D:=aAR hd.2 h0;have a2:t*D<=H*D:=abb h1 hD;have a3:D*H=H*D:=KP D H;omega
theorem awg (a b:Pt) (ha:NJ a) (hb:NJ b) (y:Int) (B g1 g2 g3:Nat) (T:List Rn) (C:List Int) (vt vc:Value) (w:World) (h:Sr w B g1 g2 g3 y T C vt vc) (hBw:B<=w.heap.size) (hg1:g1<B) (hT:T.length<=1000000) (hC:C.length<=1000000) :
  Calls Tryz.prog 202 #[BA a,BA b,.pointer (some ⟨g1,0,none⟩),.pointer (some ⟨g2,0,none⟩),.pointer (some ⟨g3,0,none⟩)] w (awe w B g1 g2 g3 y (T++Q5 y (a,b)) (C++Ic y (a,b))):=by
 have zT:=AA (@axG);obtain ⟨lo,hlo⟩:=BN (H8 a b);obtain ⟨hi,hhi⟩:=BN (Jd a b);obtain ⟨R,hR⟩:=BN (Q5 y (a,b));obtain ⟨S,hS⟩:=BN (Ic y (a,b));rw [hR,hS];obtain ⟨rise,hrise⟩:=BN ((y-lo.y)*(hi.x-lo.x));obtain ⟨q,hq⟩:=BN (Sj rise (hi.y-lo.y));have hat:XE y a b=q:=by unfold XE;rw [hlo,hhi,hrise,hq]
 have HR:=AA (show R=if y<lo.y\/hi.y<y then [] else if lo.y=hi.y then [⟨min lo.x hi.x,max lo.x hi.x+1⟩] else if q*(hi.y-lo.y)=rise then [⟨lo.x+q,lo.x+q+1⟩] else [] by
  rw [<- hR];unfold Q5;simp only;rw [hat,hlo,hhi,hrise])
 have HS:=AA (show S=if lo.y<=y/\y<hi.y then [lo.x+q] else [] by
  rw [<- hS];unfold Ic;simp only;rw [hat,hlo,hhi])
 have RX:=AA hrise;have HQ:=AA hq;clear hat hrise hq;have hll:(b.y<a.y/\lo=b/\hi=a)\/(¬ b.y<a.y/\lo=a/\hi=b):=by
  rw [<- hlo,<- hhi];unfold H8 Jd;by_cases e:b.y<a.y
  · exact .inl ⟨e,by rw [AZ e],by rw [AZ e]⟩
  · exact .inr ⟨e,by rw [AX e],by rw [AX e]⟩
 have lQ:NJ lo:=by rcases hll with ⟨-,e,-⟩ | ⟨-,e,-⟩<;>rw [e]<;>assumption
 have lS:NJ hi:=by rcases hll with ⟨-,-,e⟩ | ⟨-,-,e⟩<;>rw [e]<;>assumption
 have hlh:lo.y<=hi.y:=by rcases hll with ⟨e0,e,e2⟩ | ⟨e0,e,e2⟩<;>rw [e,e2]<;>omega
 have HH:=AA h;have X1:=h.row;have hg2:=h.tkn.box.lt;have hg3:=h.Kz.box.lt;have hg1:=X1.lt;unfold BA;clear hR hS hlo hhi h;go_enter Tryz.func202,Tryz.ntmps202;go_upto_region 1 with fail;obtain ⟨W1,hW⟩:=BR ((w.alloc (.cells #[.int .i64 a.x,.int .i64 a.y] 39)).alloc (.cells #[.int .i64 b.x,.int .i64 b.y] 39));have X5:AO W1 w.heap.size 39 #[.int .i64 a.x,.int .i64 a.y]:=by rw [hW];exact (AO.made rfl _ _).alloc _
 have X6:AO W1 (w.heap.size+1) 39 #[.int .i64 b.x,.int .i64 b.y]:=by rw [hW];exact AO.made Ak _ _
 have hA:AU w W1:=by rw [hW];exact bA (bA (bR w) _) _
 have HA:=AA hA;rw [<- hW];clear hW hA X1;obtain ⟨g6,Ir⟩:=BN (w.heap.size+1);obtain ⟨g5,hg5⟩:=BN w.heap.size;have hl5:w.heap.size<=g5:=by omega
 have hl6:w.heap.size<=g6:=by omega
 have n1:g5≠g6:=by omega
 have n2:g6≠g5:=by omega
 rw [Ir] at X6 ⊢;rw [hg5] at X5 ⊢;clear hg5 Ir;have DI:=AA X5;have IX:=AA X6;obtain ⟨CJ,CO,CS,Vg,Vh⟩:=X5.BQ;obtain ⟨EK,EL,EM,Xw,Xd⟩:=X6.BQ;rcases hll with ⟨hsw,e1,e2⟩ | ⟨hsw,e1,e2⟩;subst e1 e2;go_upto_region 3 with fail;obtain ⟨W2,hW⟩:=BR ((((W1.setCell ⟨g5,0,none⟩ (.int .i64 lo.x)).setCell ⟨g5,1,none⟩ (.int .i64 lo.y)).setCell ⟨g6,0,none⟩ (.int .i64 hi.x)).setCell ⟨g6,1,none⟩ (.int .i64 hi.y));have Y5:AO W2 g5 39 #[.int .i64 lo.x,.int .i64 lo.y]:=by rw [hW];exact ((AO.QF DI.out).far (p:=⟨g6,0,none⟩) n1 _).far (p:=⟨g6,1,none⟩) n1 _
 have Y6:AO W2 (g6) 39 #[.int .i64 hi.x,.int .i64 hi.y]:=by rw [hW];exact AO.QF ((IX.out.far (p:=⟨g5,0,none⟩) n2 _).far (p:=⟨g5,1,none⟩) n2 _)
 have HA2:=AA (show AU w W2 by rw [hW];exact bS (p:=⟨g6,1,none⟩) (bS (p:=⟨g6,0,none⟩) (bS (p:=⟨g5,1,none⟩) (bS (p:=⟨g5,0,none⟩) HA.out hl5 _) hl5 _) hl6 _) hl6 _);rw [<- hW];clear hW HA DI IX X5 X6 CJ CO CS Vg Vh EK EL EM Xw Xd
 rotate_left
 subst e1 e2;go_upto_region 3 with fail;obtain ⟨W2,hW⟩:=BR W1;have Y5:=X5;have Y6:=X6;rw [<- hW] at Y5 Y6 HA ⊢;have HA2:=HA;clear hW HA DI IX X5 X6 CJ CO CS Vg Vh EK EL EM Xw Xd
 all_goals
  have VN:=AA (HH.out.keep HA2.out);have X1:=VN.out.row;have YE:=AA Y5;have HY6:=AA Y6;clear HH;obtain ⟨BF,BG,-⟩:=X1.Fb;obtain ⟨Y5l,Y5a,Y5b,-,-⟩:=Y5.BQ;obtain ⟨Y6l,Y6a,Y6b,-,-⟩:=Y6.BQ;by_cases h1:y<lo.y
  ·have hr:=HR.out;have hs:=HS.out;rw [AZ (.inl h1)] at hr;rw [AX (fun e=>by omega)] at hs;subst hr hs;clear HR HS;go_wp2_with fail;refine bodyPost_ret (results_none rfl _ _ _) rfl ⟨rfl,⟨vt,vc,by simpa using VN.out⟩,J9.of hBw HA2.out⟩
  by_cases h2:hi.y<y
  ·have hr:=HR.out;have hs:=HS.out;rw [AZ (.inr h2)] at hr;rw [AX (fun e=>by omega)] at hs;subst hr hs;clear HR HS;go_wp2_with fail;refine bodyPost_ret (results_none rfl _ _ _) rfl ⟨rfl,⟨vt,vc,by simpa using VN.out⟩,J9.of hBw HA2.out⟩
  have hr:=HR.out;rw [AX (fun e=>e.elim h1 h2)] at hr;have HR2:=AA hr;clear hr HR;obtain ⟨At,ct,hvt,-⟩:=VN.out.tkn.own.sl;obtain ⟨Ac,cc,tY,-⟩:=VN.out.Kz.own.sl;subst hvt tY;have X2:=VN.out.tkn.box;have X3:=VN.out.Kz.box;have CG:=AA X2;have Ej:=AA X3;by_cases hfl:lo.y=hi.y
  · first
  | exfalso;omega
  | skip
    have hr:=HR2.out;have hs:=HS.out;rw [AZ hfl] at hr;rw [AX (fun e=>by omega)] at hs;subst hr hs;clear HR2 HS;have kx:IntKind.i64.wrap (max lo.x hi.x+1)=max lo.x hi.x+1:=D6 _ (by have:=lQ.1;have:=lS.1;omega);have hB2:B<=W2.heap.size:=EH hBw HA2.out.size;have hsh:(T++[(⟨min lo.x hi.x,max lo.x hi.x+1⟩:Rn)]).length=T.length+1:=by simp
    have DW:=AA hsh;clear hsh;obtain ⟨BU,BX,Qp⟩:=X2.Fb;go_wp2_with
     (at_builtin
      refine FK _ rfl (.tmp 33) (.tmp 46) _ rfl (base:=B) ZR YC ZQ rfl (Own.alloc VN.out.tkn.own _) rfl (l2:=[(⟨min lo.x hi.x,max lo.x hi.x+1⟩:Rn)]) (Sl.lit (n:=1) (AO.made rfl _ _) rfl (DN AB)) DZ DZ DT ?_;intro v3 w3 ho3 hg3 LK;obtain ⟨A3,c3,hv3,-⟩:=ho3.sl;rw [DW.out] at hv3;subst hv3;have HF:=AA (VN.out.afQ hB2 hg3 ho3);have Q8:=AO.grown (CG.out.alloc _) hg3 (fun e=>Own.Dz VN.out.tkn.own CG.out Aw e.symm);clear ho3 hg3 LK X2 BU BX Qp;obtain ⟨gG,gI,gJ⟩:=Q8.Fb
      )
    refine bodyPost_ret (results_none rfl _ _ _) rfl ⟨rfl,⟨_,_,by first | exact HF.out.1 | (rw [JA];exact HF.out.1)⟩,(J9.of hBw HA2.out).trans HF.out.2⟩
  have hH:0<hi.y-lo.y:=by omega
  have hr:=HR2.out;rw [AX hfl] at hr;have HR3:=AA hr;have hcb:=awf (t:=y-lo.y) (d:=hi.x-lo.x) (H:=hi.y-lo.y) (D:=2097152) hH AB AB (by have:=lQ.1;have:=lS.1;omega);have hrb:=alk (u:=y-lo.y) (v:=hi.x-lo.x) (by have:=lQ.2;have:=lS.2;omega) (by have:=lQ.1;have:=lS.1;omega);have hqb:=alk (u:=q) (v:=hi.y-lo.y) (by rw [RX.out,HQ.out] at hcb;omega) (by have:=lQ.2;have:=lS.2;omega);rw [RX.out] at hcb hrb;rw [HQ.out] at hcb;have b1:=lQ.1;have b2:=lS.1;have b3:=lQ.2;have b4:=lS.2;have hbd:Zm rise:=by unfold Zm;omega
  have hce:=fun W=>zT.out rise (hi.y-lo.y) W hbd hH;rw [HQ.out] at hce;have dZ:=AA hce;have hB2:B<=W2.heap.size:=EH hBw HA2.out.size;have kf:IntKind.i64.wrap (lo.x+q)=lo.x+q:=D6 _ AB;have kg:IntKind.i64.wrap (lo.x+q+1)=lo.x+q+1:=D6 _ AB;have KF:=AA kf;have KG:=AA kg;have ke:IntKind.i64.wrap (q*(hi.y-lo.y))=q*(hi.y-lo.y):=D6 _ AB;have KE:=AA ke;have ka:IntKind.i64.wrap (y-lo.y)=y-lo.y:=D6 _ AB;have kb:IntKind.i64.wrap (hi.x-lo.x)=hi.x-lo.x:=D6 _ AB;have kd:IntKind.i64.wrap (hi.y-lo.y)=hi.y-lo.y:=D6 _ AB;have kc:IntKind.i64.wrap ((y-lo.y)*(hi.x-lo.x))=rise:=by rw [RX.out];exact D6 _ AB
  clear hr hcb hrb hqb hce hbd kf kg ke zT HR2;go_upto_region 6 with fail;refine DJ (W2) (.run 17 0 0 (.done)) fun CU QR Ae Ah hS=>?_
  iterate 17 refine Aj ?_
  refine DF ?_;clear hS Ah Ae;intro hB;skip;clear ka kb kc kd;have ke:=KE.out;have kf:=KF.out;have kg:=KG.out;go_wp2_with fail;refine (dZ.out _).mono ?_;rintro e w4 ⟨rfl,hw4⟩;have YF:=AA (VN.out.keep hB);have Ou:=AA (bT HA2.out hB);have lT:=AA (YE.out.keep hB);have lU:=AA (HY6.out.keep hB);have hBn:B<=W2.drew.heap.size:=EH hB2 hB.size;rw [hw4] at *;clear X1 BF BG Y5 Y5l Y5a Y5b Y6 Y6l Y6a Y6b X2 X3 CG Ej VN YE HY6 hB2;have XR:=YF.out.row;have XT:=YF.out.tkn.box;have Z5:=lT.out;have Z6:=lU.out;have qP:=AA XT;obtain ⟨zN,zO,-⟩:=XR.Fb;obtain ⟨XTl,XTa,alm⟩:=XT.Fb;obtain ⟨Z5l,Z5a,Z5b,-,-⟩:=Z5.BQ;obtain ⟨Z6l,Z6a,Z6b,-,-⟩:=Z6.BQ;rcases Decidable.em (q*(hi.y-lo.y)=rise) with h3 | h3;have hr:=HR3.out;rw [AZ h3] at hr;subst hr;have hsh:(T++[(⟨lo.x+q,lo.x+q+1⟩:Rn)]).length=T.length+1:=by simp
  have DW:=AA hsh;have kr:IntKind.i64.wrap rise=rise:=by rw [<- h3];exact ke
  clear hsh HR3;go_upto_region 10 with
   (at_builtin
    refine FK _ rfl (.tmp 74) (.tmp 85) _ rfl (base:=B) ZR YC ZQ rfl (Own.alloc YF.out.tkn.own _) rfl (l2:=[(⟨lo.x+q,lo.x+q+1⟩:Rn)]) (Sl.lit (n:=1) (AO.made rfl _ _) rfl (DN AB)) DZ DZ DT ?_;intro v3 w3 ho3 hg3 LK;obtain ⟨A3,c3,hv3,-⟩:=ho3.sl;rw [DW.out] at hv3;subst hv3;have HF:=AA (YF.out.afQ hBn hg3 ho3);have Q8:=AO.grown (qP.out.alloc _) hg3 (fun e=>Own.Dz YF.out.tkn.own qP.out Aw e.symm);have HW5:=AA ((AO.grown (lT.out.alloc _) hg3 (fun e=>Own.Dz YF.out.tkn.own lT.out Aw e.symm)).far (p:=⟨g2,0,none⟩) (AO.Me lT.out qP.out Aw) (.slice A3 (T.length+1) c3));have HW6:=AA ((AO.grown (lU.out.alloc _) hg3 (fun e=>Own.Dz YF.out.tkn.own lU.out Aw e.symm)).far (p:=⟨g2,0,none⟩) (AO.Me lU.out qP.out Aw) (.slice A3 (T.length+1) c3));clear ho3 hg3 LK XT XTl XTa alm
    try clear gG gI
    try clear gJ
    obtain ⟨gG,gI,gJ⟩:=Q8.Fb
    )
  obtain ⟨W5,IY⟩:=BR (w3.setCell ⟨g2,0,none⟩ (.slice A3 (T.length+1) c3));have HQ:=AA HF.out.1;have U3:=AA ((J9.of hBw Ou.out).trans HF.out.2);rw [<- IY] at HQ U3 HW5 HW6 ⊢;clear IY HF Q8 gG gI gJ YF Ou lT lU qP XR zN zO Z5 Z5l Z5a Z5b Z6 Z6l Z6a Z6b hBn
  rotate_left
  have hr:=HR3.out;rw [AX h3] at hr;subst hr;clear HR3;go_upto_region 10 with fail;obtain ⟨W5,IY⟩:=BR w4;have HQ:=AA (show Sr _ _ _ _ _ _ (T++[]) _ _ _ by rw [JA];exact YF.out);have U3:=AA (J9.of (g2:=g2) (g3:=g3) hBw Ou.out);have HW5:=lT;have HW6:=lU;rw [<- IY] at HQ U3 HW5 HW6 ⊢;clear IY YF Ou lT lU qP XR zN zO XT XTl XTa alm Z5 Z5l Z5a Z5b Z6 Z6l Z6a Z6b hBn
  all_goals
   have XR:=HQ.out.row;have Z5:=HW5.out;have Z6:=HW6.out;have XC:=HQ.out.Kz.box;have HXC:=AA XC;have hB5:B<=W5.heap.size:=EH hBw U3.out.size;have kf:=KF.out
   try clear zN zO
   obtain ⟨zN,zO,-⟩:=XR.Fb
   try clear Z5l Z5a Z5b
   obtain ⟨Z5l,Z5a,Z5b,-,-⟩:=Z5.BQ
   try clear Z6l Z6a Z6b
   obtain ⟨Z6l,Z6a,Z6b,-,-⟩:=Z6.BQ;obtain ⟨XCl,XCa,awh⟩:=XC.Fb;by_cases h4:y<hi.y
   ·have hs:=HS.out;rw [AZ ⟨AB,h4⟩] at hs;subst hs;have hsh:(C++[lo.x+q]).length=C.length+1:=by simp
    have DW:=AA hsh;clear hsh HS;go_wp2_with
     (at_builtin
      refine FK _ rfl (.tmp 91) (.tmp 96) _ rfl (base:=B) JW Iz JR rfl (Own.alloc HQ.out.Kz.own _) rfl (l2:=[lo.x+q]) (Sl.lit (n:=1) (AO.made rfl _ _) rfl (DN AB)) DZ DZ DT ?_;intro v3 w3 ho3 hg3 LK;obtain ⟨A3,c3,hv3,-⟩:=ho3.sl;rw [DW.out] at hv3;subst hv3;have Q8:=AO.grown (HXC.out.alloc _) hg3 (fun e=>Own.Dz HQ.out.Kz.own HXC.out Aw e.symm);have HF:=AA (HQ.out.awd hB5 hg3 ho3 (fun e=>by have:=(HQ.out.Kz.own.lt g1 e).1;omega) (Own.Dz ho3 Q8 Aw));clear ho3 hg3 LK XC XCl XCa awh
      try clear gG gI
      try clear gJ
      obtain ⟨gG,gI,gJ⟩:=Q8.Fb
      )
    exact bodyPost_end (v:=.tuple #[]) (results_none rfl _ _ _) rfl ⟨rfl,⟨_,_,by first | exact HF.out.1 | (have hf:=HF.out.1;simp only [JA] at hf;exact hf)⟩,U3.out.trans HF.out.2⟩
   ·have hs:=HS.out;rw [AX (fun e=>h4 e.2)] at hs;subst hs;clear HS;go_wp2_with fail;exact bodyPost_end (v:=.tuple #[]) (results_none rfl _ _ _) rfl ⟨rfl,⟨_,_,by first | exact HQ.out | (have hf:=HQ.out;simp only [JA] at hf;exact hf)⟩,U3.out⟩
