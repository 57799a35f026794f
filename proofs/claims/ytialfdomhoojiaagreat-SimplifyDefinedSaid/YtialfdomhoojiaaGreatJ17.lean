import Derived.Test.YtialfdomhoojiaaGreatJ16
import Derived.Shelf.SortM.Plain
import Derived.Shelf.SortM.SortNone
import Derived.Test.YtialfdomhoojiaaGreatLaySortN
set_option linter.unusedSimpArgs false
set_option linter.unusedVariables false
set_option maxRecDepth 100000
set_option maxHeartbeats 4000000
namespace Go.Proofs.YtialfdomhoojiaaGreat
open Go.RowKit Go.Sort
def Rn (l:List Int) (x:Int):Int:=match l.findIdx? (fun y=>y == x) with
 | none=>-1
 | some k=>k
theorem aob {l:List Int} {x:Int} {k:Nat} (hk:k<l.length) (hno:∀ j (hj:j<l.length),j<k->(l[j] == x)=false) (he:(l[k] == x)=true):l.findIdx? (fun y=>y == x)=some k:=by
 rw [List.findIdx?_eq_some_iff_getElem];exact ⟨hk,he,fun j hj=>by simpa using hno j Pe hj⟩
theorem aoc {l:List Int} {x:Int} (hno:∀ j (hj:j<l.length),(l[j] == x)=false):l.findIdx? (fun y=>y == x)=none:=by
 rw [List.findIdx?_eq_none_iff];intro y hy;obtain ⟨j,hj,rfl⟩:=avI.1 hy;exact hno j hj
theorem aod (v:Value) (l:List Int) (x:Int) (w:World) (h:Ints w v l) :
  Calls Tryz.prog 78 #[v,.int .i64 x] w fun e w'=>e=.returned (.int .i64 (Rn l x))/\Below w.heap.size w w':=by
 obtain ⟨A,c,rfl,hn,hc,hR⟩:=h;unfold maxLen at hc;obtain ⟨q,hq⟩:∃ q,Rn l x=q:=⟨_,rfl⟩;rw [hq];have Hq:=avE hq;clear hq;go_enter Tryz.func78,Tryz.ntmps78;go_wp2_with fail;go_loopw [8] (fun i wr=>∃ k:Nat,k<=l.length/\i=.int .i64 k/\Below w.heap.size w wr/\∀ j (hj:j<l.length),j<k->(l[j] == x)=false) (fun i _=>l.length-(intOf i).toNat)
 case atStart => exact ⟨0,avK _,rfl,bR w,fun j _ h=>by omega⟩
 case round =>
  obtain ⟨k,hk,rfl,hb,hno⟩:=hrel;have Hb:=avE hb;have Hno:=avE hno;clear hb hno;by_cases hlt:k<l.length
  ·obtain ⟨b,o,rfl,hlb,c0⟩:=(hR.mono Hb.out).int hlt;have HR:=avE hR;clear hR
   cases he:(l[k] == x)
   ·go_wp2;go_roundw
    case rel => exact ⟨k+1,by omega,by go_num,Hb.out,all_succ (p:=fun y=>(y == x)=false) Hno.out hlt he⟩
    case measure => simp [intOf];omega
   ·have hf:=avE (aob hlt Hno.out he);have he2:(x == l[k])=true:=by simpa using (beq_iff_eq.1 he).symm
    go_wp2;go_ret;exact ⟨dL (by rw [<- Hq.out];unfold Rn;rw [hf.out]),Hb.out⟩
  ·have hf:=avE (aoc (fun j hj=>Hno.out j hj Pe));go_wp2;go_ret;exact ⟨dL (by rw [<- Hq.out];unfold Rn;rw [hf.out]),Hb.out⟩
theorem aoe (v:Value) (l:List Int) (d:Int) (w:World) (h:Ints w v l) (hl:l.length<=1000000) :
  Calls Tryz.prog 117 #[v,.int .i64 d] w fun e w'=>e=.returned (.int .i64 (precD l d))/\Below w.heap.size w w':=by
 have HI:=avE (aod v l d w h);obtain ⟨A,c,rfl,hn,hc,hR⟩:=h;unfold maxLen at hc;obtain ⟨q,hq⟩:∃ q,precD l d=q:=⟨_,rfl⟩;rw [hq];unfold Rn at HI;unfold precD at hq;have HR:=avE hR;clear hR
 cases hi:l.findIdx? (fun y=>y == d) with
 | none =>
  rw [hi] at HI hq;simp only at HI hq;subst hq;clear hi;go_enter Tryz.func117,Tryz.ntmps117;go_wp2_with fail;refine HI.out.mono ?_;rintro e w1 ⟨rfl,hb1⟩;have B1:=avE hb1;clear hb1;go_wp2;go_ret;exact ⟨rfl,B1.out⟩
 | some k =>
  rw [hi] at HI hq;simp only at HI hq;have hk:k<l.length:=(List.findIdx?_eq_some_iff_getElem.1 hi).1;clear hi;have hm:(k+l.length-1) % l.length<l.length:=Nat.mod_lt _ Pe;have hq2:l[(k+l.length-1) % l.length]=q:=by
   rw [<- hq];simp only [avT,avG hm,avU]
  have htm:Int.tmod ((k:Int)+(l.length:Int)-1) (l.length:Int)=((k+l.length-1) % l.length:Nat):=by
   rw [Int.tmod_eq_emod_of_nonneg Pe,show (k:Int)+(l.length:Int)-1=((k+l.length-1:Nat):Int) by omega];exact (Int.natCast_emod _ _).symm
  clear hq;generalize hM:(k+l.length-1) % l.length=m at *;have Hq2:=avE hq2;clear hq2 hM;have h0:¬ (k:Int)<0:=by omega
  have g1:IntKind.i64.wrap ((k:Int)+(l.length:Int))=(k:Int)+(l.length:Int):=avS _ Pe;have g2:IntKind.i64.wrap ((k:Int)+(l.length:Int)-1)=(k:Int)+(l.length:Int)-1:=avS _ Pe;have g3:¬ (l.length:Int)=0:=by omega
  have g4:IntKind.i64.wrap (m:Int)=m:=avS _ Pe;have g5:(m:Int)<l.length:=by omega
  have g6:0<=(m:Int):=by omega
  have hne:l.length≠0:=by omega
  have hne':l≠[]:=by intro e;rw [e] at hne;exact hne rfl
  have Hne:=avE hne;clear hne;go_enter Tryz.func117,Tryz.ntmps117;go_wp2_with fail;refine HI.out.mono ?_;rintro e w1 ⟨rfl,hb1⟩;have B1:=avE hb1;clear hb1;obtain ⟨b,o,rfl,hlb,c0⟩:=(HR.out.mono B1.out).int hm;rw [Hq2.out] at c0;go_wp2;go_ret;exact ⟨rfl,B1.out⟩
theorem Valid.aa7 {p:Pl} (h:Valid p) (n:Int):(dJ p n).length<=512:=by
 cases hf:mP p.nodes n with
 | none=>simp [dJ,hf]
 | some nd =>
  have hm:nd∈p.nodes:=List.mem_of_find?_eq_some hf;have hid:nd.id=n:=by have:=List.find?_some hf;simpa using this
  subst hid;rw [(h.pK hm).length_eq];have h1:=Ri p.aj nd.id;have hl:=h.lim;unfold nC at hl;simp only [Bool.or_eq_false_iff,avX] at hl;omega
open Go.RowKit Go.Sort
def wU (l:List Int):List Int:=l.mergeSort fun x y=>decide (x<=y)
theorem agG (l:List Int):(wU l).Perm l:=List.mergeSort_perm _ _
theorem aof (l:List Int):(wU l).length=l.length:=(agG l).length_eq
theorem aog (l:List Int):(wU l).Pairwise (·<=·):=by
 have:=List.pairwise_mergeSort (le:=fun (x y:Int)=>decide (x<=y)) (fun a b c h1 h2=>by simp only [avQ] at *;omega) (fun a b=>by simp only [Bool.or_eq_true,avQ];omega) l
 exact this.imp (fun h=>by simpa using h)
theorem aoh {l m:List Int} (hp:l.Perm m) (hs:m.Pairwise (· < ·)):wU l=m:=by
 refine Qp (lt:=fun a b=>decide (a<b)) ((agG l).trans hp) ?_ ?_ (fun a _ b _ h1 h2=>by simp only [avX] at *;omega)
 · exact (aog l).imp (fun h=>by simpa using h)
 · exact hs.imp (fun h=>by simp only [avX];omega)
theorem aa8 (w:World) (n:Nat) (blk off:Nat) (d:Array Int) (os:Array Obj):(grow (putRow (Value.int .i64) (Sort.ahead w n) blk off d) os).heap=w.heap.modify blk (onCells (putCells (Value.int .i64) off d))++os:=rfl
theorem aoi (w:World) (n:Nat) (blk off:Nat) (d:Array Int) (os:Array Obj):w.grownBy (grow (putRow (Value.int .i64) (Sort.ahead w n) blk off d) os) (some blk):=by
 refine ⟨rfl,rfl,rfl,?_,fun i hi hne=>?_⟩
 · rw [aa8];simp
 ·have hne':blk≠i:=fun e=>hne avA;rw [aa8,Array.getElem?_append_left avy,Array.getElem?_modify,if_neg hne']
theorem aoj (base:Nat) (v:Value) (sl:List Int) (w:World) (hown:Own w base 3 1 dw v sl) (hn:sl.length<=4294967296) :
  Calls Tryz.prog 118 #[v] w (agn w base v (wU sl)):=by
 rcases sl with _ | ⟨s0,rest⟩
 ·have hv:∃ p cap,v=.slice p 0 cap:=by
   rcases hown.2 with ⟨h,_⟩ | ⟨g,cap,cur,h,_⟩
   · exact ⟨_,_,h⟩
   · exact ⟨_,_,h⟩
  obtain ⟨p,cap,rfl⟩:=hv;refine Calls.mono (AnyM.slices_Sort_int_none Tryz.sortN p cap w) ?_;rintro e w' ⟨rfl,rfl⟩;exact ⟨rfl,by rw [show wU []=[] by simp [wU]];exact hown,World.grownBy.refl _ _⟩
 generalize hsl:s0::rest=sl at *;have hpos:0<sl.length:=by rw [<- hsl];simp
 obtain ⟨hlen,hown2⟩:=hown;rcases hown2 with ⟨_,h0⟩ | ⟨g,cap,cur,rfl,hg,hh,hnc,hcm,hcs,hx⟩
 · omega
 have hcur:∀ j,j<sl.length->cur[j]? = (sl[j]?).map (.int .i64 ·):=fun j hj=>by
  rw [<- VE,<- hx,List.getElem?_take,if_pos Pe];simp
 have hH:Holds (Value.int .i64) w g 0 sl.toArray:=fun j hj=>by
  have hj':j<sl.length:=by simpa using hj
  refine ⟨?_,ah.frozen (t:=3) (cs:=cur) hh _⟩;rw [cell_of_row w g _ cur 3 (0,0) hh,Nat.zero_add,hcur j hj',getElem!_pos sl.toArray j hj,avG hj'];simp
 refine Calls.mono (AnyM.slices_Sort_int Tryz.sortN g 0 cap sl w hH (ah.lt hh) Pe) ?_;rintro e w' ⟨rfl,n,os,rfl⟩;have hl':(wU sl).length=sl.length:=aof sl;refine ⟨rfl,?_,aoi w n g 0 _ os⟩;unfold Own;rw [hl'];refine ⟨by rw [VF,hl'];omega,.inr ⟨g,cap,putCells (Value.int .i64) 0 (wU sl).toArray cur,rfl,hg,?_,hnc,hcm,by simp [putCells,hcs],?_⟩⟩
 ·have hgl:g<w.heap.size:=ah.lt hh
  show (grow (putRow (Value.int .i64) (Sort.ahead w n) g 0 (wU sl).toArray) os).heap[g]? = _
  rw [aa8,Array.getElem?_append_left (by simpa using hgl),Array.getElem?_modify,if_pos rfl,hh];rfl
 ·apply List.ext_getElem?;intro j;rw [List.getElem?_take];by_cases hj:j<sl.length*1
  ·rw [if_pos hj];have hjc:j<cur.size:=by rw [hcs];omega
   have hjd:j<(wU sl).length:=by rw [hl'];omega
   rw [VE,avG hjd];have e1:(putCells (Value.int .i64) 0 (wU sl).toArray cur).toList[j]? = some (.int .i64 (wU sl).toArray[j]!):=by
    simp [putCells,hjc,hjd]
   rw [e1,getElem!_pos (wU sl).toArray j (by simpa using hjd)];simp
  · rw [if_neg hj,awj (by rw [VF,hl'];omega)]
def lJ (x:List Int×SV):List Value:=[.slice x.2.a x.2.n x.2.c]
theorem Ew (x:List Int×SV):(lJ x).length=1:=rfl
theorem Gl (x:List Int×SV):∀ u∈lJ x,u.oneCell'=true:=by simp [lJ,Value.oneCell']
theorem Gm:Elem Tryz.prog 60 24 1 24:=Elem.xK (z:=.slice none 0 0) atF atF rfl Pe
def zJ (w:World) (B:Nat) (v:Value) (L:List (List Int×SV)):Prop :=
 Own w B 24 1 lJ v L/\∀ x∈L,Own w B 3 1 dw (.slice x.2.a x.2.n x.2.c) x.1
theorem zJ.keep {w w':World} {B:Nat} {v:Value} {L:List (List Int×SV)} (h:zJ w B v L) (hb:Below w.heap.size w w'):zJ w' B v L :=
 ⟨h.1.keep hb,fun x hx=>(h.2 x hx).keep hb⟩
def aa9 (w:World) (l:List (List Int)) (z:Int) (e:Ending) (w':World):Prop :=
 ∃ A c L,e=.returned (.tuple #[.slice A l.length c,.int .i64 z])/\Below w.heap.size w w'/\L.map (·.1)=l/\zJ w' w.heap.size (.slice A l.length c) L
theorem abb {w:World} {gm n:Nat} {f:Int->Int} (h:oz w gm n f) {g:Nat} {t:TypeId} {cs:Array Value} (hg:ah w g t cs):g≠gm:=by
 rintro rfl;obtain ⟨D,h1,-⟩:=h;obtain ⟨es,clock,h2,-⟩:=h1;unfold ah at hg;rw [hg] at h2
 cases h2
theorem Ro {w:World} {gm n:Nat} {f:Int->Int} (h:oz w gm n f) {base:Nat} {e:TypeId} {size:Nat} {α:Type} {fe:α->List Value} {v:Value} {l:List α} (ho:Own w base e size fe v l):v.ownBlock≠some gm:=by
 rcases ho.2 with ⟨rfl,_⟩ | ⟨g,cap,cur,rfl,_,hh,_⟩
 · simp [Value.ownBlock]
 ·intro e';exact abb h (cs:=cur) (g:=g) hh avt
theorem Own.row_in {w:World} {base:Nat} {A:Option Addr} {n c:Nat} {l:List Int} (h:Own w base 3 1 dw (.slice A n c) l):Row w A (l.flatMap dw):=by
 obtain ⟨A',c',he,_,_,hr⟩:=h.sl;injection he with e1 e2 e3;subst e1;exact hr
def nR (p:Pl) (k:Nat):List Int:=(p.nodes.take k).flatMap fun n=>dJ p n.id
def Oq (p:Pl) (F:Int->Int) (L:List Int):Prop:=∀ e∈L,F (-e)=iH p (-e)
theorem agH (p:Pl) (k:Nat) (hk:k<p.nodes.length):nR p (k+1)=nR p k++dJ p p.nodes[k].id:=by
 unfold nR;rw [avH hk,List.flatMap_append];simp
theorem agI {p:Pl} (h:Valid p) (k:Nat):(nR p k).length<=512*k:=by
 induction k with
 | zero=>simp [nR]
 | succ k ih =>
  by_cases hk:k<p.nodes.length
  ·rw [agH p k hk,avL];have:=h.aa7 p.nodes[k].id
   omega
  ·have:nR p (k+1)=nR p k:=by
    unfold nR;rw [List.take_of_length_le Pe,List.take_of_length_le Pe]
   rw [this];omega
theorem VN (p:Pl):nR p p.nodes.length=p.nodes.flatMap fun n=>dJ p n.id:=by
 unfold nR;rw [List.take_length]
theorem Oq.snoc {p:Pl} {F:Int->Int} {L:List Int} (h:Oq p F L) {d x:Int} (hx:iH p (-d)=x):Oq p (fun i=>if i=-d then x else F i) (L++[d]):=by
 intro e he;by_cases hd:e=d
 · subst hd;simp [hx]
 ·have hne:-e≠-d:=by omega
  simp only [av1,avY,hd,or_false] at he;simp only [hne,if_false];exact h e he
section
variable {p:Pl} (h:Valid p)
include h
theorem Valid.abd {n:Nd} (hn:n∈p.nodes) {d:Int} (hd:d∈dJ p n.id):iH p (-d)=precD (dJ p n.id) d/\d∈bf p:=by
 obtain ⟨h1,h2⟩:=h.KL ((h.pK hn).subset hd);obtain ⟨n',hn',e,hm,hx⟩:=h.NZ (Dn h1);rw [Int.neg_neg] at e hm hx;exact ⟨by rw [hx,e,h2],h1⟩
theorem Valid.tZ {d:Int} (hd:d∈bf p):-1073741824<=d/\d<=1073741824:=by
 obtain ⟨a,ha,e⟩:=kZ.1 hd;have:=h.kC ha
 omega
theorem Valid.aok:wU (nR p p.nodes.length)=bf p:=by
 rw [VN];exact aoh h.Vh h.Vg
theorem Valid.aol {F:Int->Int} (hF:Oq p F (nR p p.nodes.length)) {d:Int} (hd:d∈bf p):F d=iH p d:=by
 have h1:-d∈nR p p.nodes.length:=by
  rw [VN];exact h.Vh.symm.subset (Dn hd)
 have:=hF _ h1
 rwa [Int.neg_neg] at this
theorem Valid.agJ:(bf p).length<=512:=by
 have hl:=h.lim;unfold nC at hl;simp only [Bool.or_eq_false_iff,avX] at hl;unfold bf;simp only [avL,List.length_reverse,avM];omega
theorem Valid.VO:p.nodes.length<=256:=by
 have hl:=h.lim;unfold nC at hl;simp only [Bool.or_eq_false_iff,avX] at hl;omega
theorem Valid.agK (k:Nat):rH (iH p) (bf p) ((bf p).take k) (((bf p).take k).foldl (rG (iH p) (bf p)) []):=by
 have:=aag (f:=iH p) (D:=bf p) (fun x hx=>(h.uK hx).1) (fun x hx y hy=>h.Ej hx hy) ((bf p).take k) [] [] (rH.nil _ _) (fun x hx=>List.mem_of_mem_take hx) (by rw [List.nil_append];exact h.Vg.sublist (List.take_sublist _ _))
 rwa [List.nil_append] at this
end
theorem agL (f:Int->Int) (D:List Int) (k:Nat) (hk:k<D.length):(D.take (k+1)).foldl (rG f D) []=rG f D ((D.take k).foldl (rG f D) []) D[k]:=by
 rw [avH hk,List.foldl_append];rfl
def qw (Q:List Int):List (Int×Int):=(List.range Q.length).map fun j=>(-(Q.getD ((j+1) % Q.length) 0),Q.getD j 0)
def qx (p:Pl) (k:Nat):List (Int×Int):=(p.nodes.take k).flatMap fun n=>qw (dJ p n.id)
theorem Ot (Q:List Int):(qw Q).length=Q.length:=by simp [qw]
theorem aom (p:Pl) (k:Nat) (hk:k<p.nodes.length):qx p (k+1)=qx p k++qw (dJ p p.nodes[k].id):=by
 unfold qx;rw [avH hk,List.flatMap_append];simp
theorem agM (p:Pl) (k:Nat):(qx p k).length=(nR p k).length:=by
 unfold qx nR;rw [List.length_flatMap,List.length_flatMap];congr 1;exact List.map_congr_left fun n _=>Ot _
theorem aon (Q:List Int) (j:Nat) (hj:j<Q.length) (hm:(j+1) % Q.length<Q.length):(qw Q).take (j+1)=(qw Q).take j++[(-Q[(j+1) % Q.length],Q[j])]:=by
 have h:j<(qw Q).length:=by rw [Ot];exact hj
 rw [avH h];congr 2;simp only [qw,av4,List.getElem_range,avT,avG hm,avG hj,avU]
theorem aoo (Q:List Int):(qw Q).take Q.length=qw Q:=List.take_of_length_le (by rw [Ot];exact awe _)
theorem aop {Q:List Int} {x:Int×Int} (h:x∈qw Q):∃ j,∃ hj:j<Q.length,∃ hm:(j+1) % Q.length<Q.length,x=(-Q[(j+1) % Q.length],Q[j]):=by
 unfold qw at h;obtain ⟨j,hj,rfl⟩:=av6.1 h;rw [List.mem_range] at hj;have hm:(j+1) % Q.length<Q.length:=Nat.mod_lt _ Pe;exact ⟨j,hj,hm,by simp only [avT,avG hm,avG hj,avU]⟩
theorem aoq {j N:Nat} (hj:j<N):j=((j+1) % N+N-1) % N:=by
 by_cases e:j+1=N
 ·subst e;rw [Nat.mod_self];have:(0+(j+1)-1) % (j+1)=j:=by rw [show 0+(j+1)-1=j by omega];exact Nat.mod_eq_of_lt Pe
  exact this.symm
 · rw [Nat.mod_eq_of_lt (show j+1<N by omega),show j+1+N-1=j+N by omega,Nat.add_mod_right,Nat.mod_eq_of_lt hj]
section
variable {p:Pl} (h:Valid p)
include h
theorem Valid.aor {x:Int×Int} (hx:x∈qx p p.nodes.length):x.1∈bf p/\x.2=iH p x.1:=by
 unfold qx at hx;rw [List.take_length] at hx;obtain ⟨n,hn,hx⟩:=List.mem_flatMap.1 hx;obtain ⟨j,hj,hm,rfl⟩:=aop hx;have hnd:=h.Ji hn;have h1:=h.abd hn (avF hm);refine ⟨Dn h1.2,?_⟩
 show (dJ p n.id)[j]=iH p (-(dJ p n.id)[(j+1) % (dJ p n.id).length])
 rw [h1.1,KJ hnd hm];congr 1;exact aoq hj
theorem Valid.aos {d:Int} (hd:d∈bf p):d∈(qx p p.nodes.length).map (·.1):=by
 obtain ⟨n,hn,-,hm⟩:=h.aak (Dn hd);have hq:=(h.pK hn).symm.subset hm;obtain ⟨i,hi,e⟩:=avI.1 hq;rw [av6];have key:∃ j,j<(dJ p n.id).length/\(j+1) % (dJ p n.id).length=i:=by
  by_cases e0:i=0
  ·subst e0;exact ⟨(dJ p n.id).length-1,by omega,by rw [Nat.sub_add_cancel Pe,Nat.mod_self]⟩
  · exact ⟨i-1,by omega,by rw [Nat.sub_add_cancel Pe,Nat.mod_eq_of_lt hi]⟩
 obtain ⟨j,hj,hji⟩:=key;refine ⟨(-((dJ p n.id).getD ((j+1) % (dJ p n.id).length) 0),(dJ p n.id).getD j 0),?_,?_⟩
 ·unfold qx;rw [List.take_length,List.mem_flatMap];exact ⟨n,hn,av6.2 ⟨j,List.mem_range.2 hj,rfl⟩⟩
 ·show -((dJ p n.id).getD ((j+1) % (dJ p n.id).length) 0)=d
  rw [hji,avT,avG hi,avU,e];omega
theorem Valid.aot:(qx p p.nodes.length).length=(bf p).length:=by
 rw [agM,VN];exact h.Vh.length_eq
end
open Go.RowKit Go.Sort
theorem aou (v:Value) (l:List Int) (x:Int) (w:World) (h:Ints w v l) :
  Calls Tryz.prog 194 #[v,.int .i64 x] w fun e w'=>e=.returned (.bool (l.any fun y=>y == x))/\Below w.heap.size w w':=by
 obtain ⟨A,c,rfl,hn,hc,hR⟩:=h;unfold maxLen at hc;obtain ⟨q,hq⟩:∃ q,(l.any fun y=>y == x)=q:=⟨_,rfl⟩;rw [hq];have Hq:=avE hq;clear hq;go_enter Tryz.func194,Tryz.ntmps194;go_wp2_with fail;go_loopw [5] (fun i wr=>∃ k:Nat,k<=l.length/\i=.int .i64 k/\Below w.heap.size w wr/\∀ j (hj:j<l.length),j<k->(fun y=>y == x) l[j]=false) (fun i _=>l.length-(intOf i).toNat)
 case atStart => exact ⟨0,avK _,rfl,bR w,fun j _ h=>by omega⟩
 case round =>
  obtain ⟨k,hk,rfl,hb,hno⟩:=hrel;have Hb:=avE hb;have Hno:=avE hno;clear hb hno;by_cases hlt:k<l.length
  ·obtain ⟨b,o,rfl,hlb,c0⟩:=(hR.mono Hb.out).int hlt;have HR:=avE hR;clear hR
   cases he:(l[k] == x)
   ·go_wp2;go_roundw
    case rel => exact ⟨k+1,by omega,by go_num,Hb.out,all_succ (p:=fun y=>(fun y=>y == x) y=false) Hno.out hlt he⟩
    case measure => simp [intOf];omega
   ·have hf:=vO l (fun y=>y == x) k hlt he;rw [Hq.out] at hf;subst hf;go_wp2;go_ret;exact ⟨rfl,Hb.out⟩
  ·have hf:=y7 l (fun y=>y == x) (fun j hj=>Hno.out j hj Pe);rw [Hq.out] at hf;subst hf;go_wp2;go_ret;exact ⟨rfl,Hb.out⟩
theorem aov (v:Value) (p:Pl) (w:World) (h:bQ w v p) (hv:Valid p) :
  Calls Tryz.prog 193 #[v] w (VJ w (bf p)):=by
 obtain ⟨_,_,_,al,rfl,hpa,⟨An,cn,rfl,-⟩,⟨⟨Aa,ca,rfl,hn1,hn2,hR⟩,-⟩,⟨Af,cf,rfl,-⟩⟩:=h;unfold maxLen at hn2;have hall:al.length<=256:=by
  have hl:=hv.lim;unfold nC at hl;simp only [Bool.or_eq_false_iff,avX] at hl;have h2:=hl.2;rw [hpa,avM] at h2;omega
 have Rq:=avE (show ∀ k (hk:k<al.length),1<=al[k].1.id/\al[k].1.id<=1073741824 from fun k hk=>hv.kC (by rw [hpa];exact awd (avF hk)));obtain ⟨q,hq⟩:∃ q,bf p=q:=⟨_,rfl⟩;rw [hq];have hq2:(al.map fun x=>-x.1.id).reverse++al.map (fun x=>x.1.id)=q:=by rw [<- hq];unfold bf;rw [hpa,awc,awc];rfl
 have Hq:=avE hq2;have HR:=avE hR;generalize p.nodes.length=nn at *;generalize p.faces.length=nf at *;have k0:IntKind.i64.wrap ((al.length:Int)-1)=(al.length:Int)-1:=avS _ Pe;clear hpa hR hv hq hq2;go_enter Tryz.func193,Tryz.ntmps193;go_wp2_with fail;obtain ⟨W0,hW⟩:∃ W0:World,W0=w.alloc (.cells #[.slice An nn cn,.slice Aa al.length ca,.slice Af nf cf] 26):=⟨_,rfl⟩;have HB0:=avE (show Below w.heap.size w W0 by rw [hW];exact bA (bR w) _);have gq:=avE (show ah W0 w.heap.size 26 #[.slice An nn cn,.slice Aa al.length ca,.slice Af nf cf] by rw [hW];exact ah.made rfl _ _);rw [<- hW];clear hW;have hz0:=gq.out.lt;go_loopw [3,4] (fun s i wr=>∃ m:Nat,m<=al.length/\i=.int .i64 ((m:Int)-1)/\Own wr W0.heap.size 3 1 dw s ((al.drop m).map fun x=>-x.1.id).reverse/\Below W0.heap.size W0 wr) (fun _ i _=>((intOf i)+1).toNat)
 case atStart => exact ⟨al.length,awe _,rfl,by rw [List.drop_length];exact Own.nil _ _ _ _ _,bR W0⟩
 case round =>
  obtain ⟨m,hm,rfl,ho,hb⟩:=hrel;have Ho:=avE ho;have Hb:=avE hb;have X1:=gq.out.keep hb;have hzr:=hb.size;clear ho hb;obtain ⟨aS,aT,aU,aW,-,-,-⟩:=X1.aF;by_cases hlt:0<m
  case pos =>
   obtain ⟨j,rfl⟩:∃ j,m=j+1:=⟨m-1,by omega⟩;have hj:j<al.length:=by omega
   obtain ⟨b,o,rfl,hlb,c0,-⟩:=(HR.out.mono (bT HB0.out Hb.out)).ar hj;have hid:=Rq.out j hj;have hst:((al.drop j).map fun x=>-x.1.id).reverse=((al.drop (j+1)).map fun x=>-x.1.id).reverse++[-al[j].1.id]:=by
    rw [List.drop_eq_getElem_cons hj,List.map_cons,List.reverse_cons]
   have fU:=avE hst;have hll:(((al.drop (j+1)).map fun x=>-x.1.id).reverse).length<=256:=by simp;omega
   have iM:=avE hll;clear hst hll;generalize ((al.drop (j+1)).map fun x=>-x.1.id).reverse=L at *;generalize al[j].1.id=d at *;have k1:IntKind.i64.wrap (-d)=-d:=avS _ Pe;have k2:((j+1:Nat):Int)-1=(j:Int):=by omega
   have k3:(0:Int)<=(j:Int):=by omega
   have k4:(j:Int)<al.length:=by omega
   have k5:IntKind.i64.wrap ((j:Int)-1)=(j:Int)-1:=avS _ Pe;rw [k2];obtain ⟨s,rfl⟩:∃ s:Value,s=u3:=⟨_,rfl⟩;clear hid;go_wp2_with
    (at_builtin
     refine iZ _ rfl (.tmp 14) (.tmp 22) _ rfl (base:=W0.heap.size) jR jB jT rfl (Own.alloc Ho.out _) rfl (l2:=[-d]) (Sl.lit (n:=1) (ah.made rfl _ _) rfl (dP Pe)) avf avf arV ?_;intro v1 w1 ho1 hg1 yx;have ku:=avE ho1;have HB1:=avE (Below.grown (Below.alloc Hb.out Pe _) hg1 arV (fun g hg=>(Ho.out.lt g hg).1));clear ho1 hg1 yx)
   go_roundw
   case rel => exact ⟨j,by omega,rfl,by rw [fU.out];exact ku.out,HB1.out⟩
   case measure => simp [intOf]
  case neg =>
   have h0:m=0:=by omega
   subst h0;have k3:¬ (0:Int)<=((0:Nat):Int)-1:=by omega
   rw [List.drop_zero] at Ho;generalize hL1:(al.map fun x=>-x.1.id).reverse=L1 at *;have hl1:L1.length<=256:=by rw [<- hL1];simp;omega
   have rD:=avE hl1;clear hL1 hl1;have Jv:=avE Hq.out;clear Hq;go_wp2_with fail;obtain ⟨wo,rfl⟩:∃ wo:World,wo=wr:=⟨_,rfl⟩;obtain ⟨s0,rfl⟩:∃ s:Value,s=u3:=⟨_,rfl⟩;go_loopw [3,5] (fun s i wr=>∃ k:Nat,k<=al.length/\i=.int .i64 k/\Own wr W0.heap.size 3 1 dw s (L1++(al.take k).map fun x=>x.1.id)/\Below W0.heap.size W0 wr) (fun _ i _=>al.length-(intOf i).toNat)
   case atStart => exact ⟨0,avK _,rfl,by simpa using Ho.out,Hb.out⟩
   case round =>
    obtain ⟨k,hk,rfl,ho,hb⟩:=hrel;have Gn:=avE ho;have Hb2:=avE hb;replace X1:=gq.out.keep hb;have aow:=hb.size;clear ho hb aS aT aU aW
    try clear aS
    try clear aT
    try clear aU
    try clear aW
    obtain ⟨aS,aT,aU,aW,-,-,-⟩:=X1.aF;by_cases hlt2:k<al.length
    case pos =>
     obtain ⟨b,o,rfl,hlb,c0,-⟩:=(HR.out.mono (bT HB0.out Hb2.out)).ar hlt2;have hst:L1++(al.take (k+1)).map (fun x=>x.1.id)=(L1++(al.take k).map fun x=>x.1.id)++[al[k].1.id]:=by
      rw [avH hlt2,List.map_append,awm];rfl
     have fU:=avE hst;have hll:(L1++(al.take k).map fun x=>x.1.id).length<=512:=by
      have:=rD.out
      simp only [avL,avM,awk];omega
     have iM:=avE hll;clear hst hll;generalize L1++(al.take k).map (fun x=>x.1.id)=L at *;generalize al[k].1.id=d at *;have k4:(k:Int)<al.length:=by omega
     obtain ⟨s,rfl⟩:∃ s:Value,s=u3:=⟨_,rfl⟩;go_wp2_with
      (at_builtin
       refine iZ _ rfl (.tmp 31) (.tmp 38) _ rfl (base:=W0.heap.size) jR jB jT rfl (Own.alloc Gn.out _) rfl (l2:=[d]) (Sl.lit (n:=1) (ah.made rfl _ _) rfl (dP Pe)) avf avf arV ?_;intro v1 w1 ho1 hg1 yx;have ku:=avE ho1;have HB1:=avE (Below.grown (Below.alloc Hb2.out Pe _) hg1 arV (fun g hg=>(Gn.out.lt g hg).1));clear ho1 hg1 yx)
     go_roundw
     case rel => exact ⟨k+1,by omega,by go_num,by rw [fU.out];exact ku.out,HB1.out⟩
     case measure => simp [intOf];omega
    case neg =>
     have hkk:k=al.length:=by omega
     subst hkk;have ho2:=Gn.out;rw [List.take_length,Jv.out] at ho2;obtain ⟨A,c,rfl,-⟩:=Own.shape ho2;have iU:=avE ho2;clear ho2 Gn;go_wp2;go_ret;exact ⟨A,c,rfl,bT HB0.out Hb2.out,iU.out.fG Pe⟩
open Go.RowKit Go.Sort
def oJ (p:Pl) (d:Int):Pt:=(zy p d).getD 1 aA
theorem Valid.aox {p:Pl} (h:Valid p) {n d:Int} (hd:d∈eG p.aj n):oJ p d=fC p d:=by
 obtain ⟨a,ha,e⟩:=wJ.1 hd;have hid:=h.kC ha;unfold oJ;rcases e with ⟨rfl,-⟩ | ⟨rfl,-⟩
 · rw [QA h (h.NW ha),if_pos Pe,h.KG ha]
 ·rw [QA h (h.Qr ha),if_neg Pe,h.Jf ha];have hl:=ig p a;simp only [avT];rw [List.getElem?_reverse Pe];congr 2;omega
theorem aoy (v:Value) (p:Pl) (d:Int) (w:World) (h:bQ w v p) (hs:Short p) (hd:-9223372036854775808<d/\d<=9223372036854775807) :
  Calls Tryz.prog 274 #[v,.int .i64 d] w fun e w'=>e=.returned (.agg #[.int .i64 (oJ p d).x,.int .i64 (oJ p d).y])/\Below w.heap.size w w':=by
 have HA:=avE (fun W (hW:Below w.heap.size w W)=>afc v p d W (h.mono hW) hs hd);obtain ⟨_,_,_,al,rfl,hpa,⟨An,cn,rfl,-⟩,⟨⟨Aa,ca,rfl,-⟩,-⟩,⟨Af,cf,rfl,-⟩⟩:=h;unfold oJ;generalize al.length=na at *;generalize p.nodes.length=nn at *;generalize p.faces.length=nf at *;clear hpa hs;generalize zy p d=P at *;obtain ⟨q,hq⟩:∃ q,P.getD 1 aA=q:=⟨_,rfl⟩;rw [hq];have Hq:=avE hq;clear hq;unfold Ie at HA;go_enter Tryz.func274,Tryz.ntmps274;go_wp2_with fail;refine (HA.out _ (bA (bA (bR w) _) _)).mono ?_;rintro e w1 ⟨A1,c1,rfl,hb1,ho1⟩;have B1:=avE (bT (bA (bA (bR w) _) _) hb1);have X4:ah w1 (w.heap.size+1) 39 #[.int .i64 0,.int .i64 0]:=(ah.made ars _ _).keep hb1;obtain ⟨Aq,cq,he,hq1,hq2,zA⟩:=ho1.sl;injection he with e1 e2 e3;subst e1 e3;clear e2;unfold maxLen at hq2;have Jj:=avE zA;clear hb1 ho1 zA HA hd;obtain ⟨aV,aX,bn,dV,gy⟩:=X4.aQ;by_cases hl:P.length<2
 case pos =>
  have hg:P.getD 1 aA=aA:=by
   simp only [avT,awj (show P.length<=1 by omega),Option.getD_none]
  rw [Hq.out] at hg;subst hg;have hl':(P.length:Int)<2:=by omega
  clear Hq;generalize P.length=n at *;go_wp2_with fail;refine Po (t:=39) (g:=w.heap.size+1) (cs:=#[.int .i64 0,.int .i64 0]) rfl Uk rfl rfl (ah.MW X4) ⟨rfl,?_⟩;have Bw:=B1.out;exact eF
 case neg =>
  have hP1:1<P.length:=by omega
  obtain ⟨b1,o1,rfl,hlb,e0,e1⟩:=Jj.out.pt hP1;have hg:P.getD 1 aA=P[1]:=by simp only [avT,avG hP1,avU]
  rw [Hq.out] at hg;rw [<- hg] at e0 e1;clear hg Jj Hq;simp only [Nat.one_mul] at e0 e1;have hl':¬ (P.length:Int)<2:=by omega
  have hl2:(1:Int)<(P.length:Int):=by omega
  generalize P.length=n at *;go_wp2_with fail;refine Po (t:=39) (g:=w.heap.size+1) (cs:=#[.int .i64 q.x,.int .i64 q.y]) rfl Uk rfl rfl (ah.MW X4) ⟨rfl,?_⟩;have Bw:=B1.out;exact eF
def Ey (lt:Int->Int->Bool) (D:List Int) (x:Int):Nat:=D.countP (fun y=>lt y x)
def Rt (lt:Int->Int->Bool) (D:List Int) (k:Nat):Option Int:=D.find? (fun x=>Ey lt D x == k)
theorem aoz {lt:Int->Int->Bool} {S:List Int} (hs:S.Pairwise (fun a b=>lt a b=true/\lt b a=false)) (hir:∀ x∈S,lt x x=false) {k:Nat} (hk:k<S.length):Ey lt S S[k]=k:=by
 have hP:=avJ.1 hs;obtain ⟨c,hc⟩:∃ c,S[k]=c:=⟨_,rfl⟩;have e:S=S.take k++S[k]::S.drop (k+1):=by rw [<- List.drop_eq_getElem_cons hk,List.take_append_drop]
 have h1:(S.take k).countP (fun y=>lt y S[k])=k:=by
  have h2:(S.take k).countP (fun y=>lt y S[k])=(S.take k).length:=List.countP_eq_length.2 (fun a ha=>by
   obtain ⟨j,hj,rfl⟩:=avI.1 ha;rw [awk] at hj;rw [List.getElem_take];exact (hP j k Pe hk Pe).1)
  rw [h2,awk];omega
 have h3:(S.drop (k+1)).countP (fun y=>lt y S[k])=0:=List.countP_eq_zero.2 (fun a ha=>by
  obtain ⟨j,hj,rfl⟩:=avI.1 ha;rw [awl] at hj;rw [List.getElem_drop];have:=(hP k (k+1+j) hk Pe Pe).2
  rw [this];decide)
 unfold Ey;rw [hc] at h1 h3 e ⊢;have hcc:=hir c (hc ▸ avF hk)
 conv=>lhs;rw [e]
 rw [List.countP_append,List.countP_cons,h1,h3,hcc];simp
theorem aoA {lt:Int->Int->Bool} {D:List Int} (ho:FN lt D) (hn:D.Nodup):(sortB lt D).Pairwise (fun a b=>lt a b=true/\lt b a=false):=by
 obtain ⟨hp,hs⟩:=KI ho;have hn2:(sortB lt D).Nodup:=hp.nodup_iff.2 hn;rw [avJ] at hs ⊢;intro i j hi hj hij;have h1:=hs i j hi hj hij;refine ⟨?_,h1⟩
 cases h:lt (sortB lt D)[i] (sortB lt D)[j]
 ·have e:=ho.tri _ (hp.mem_iff.1 (avF hi)) _ (hp.mem_iff.1 (avF hj)) h h1;have:=(avJ.1 hn2) i j hi hj hij
  exact absurd e this
 · rfl
theorem aoB {lt:Int->Int->Bool} {D:List Int} (ho:FN lt D) (hn:D.Nodup) {k:Nat} (hk:k<D.length):Rt lt D k=(sortB lt D)[k]? := by
 obtain ⟨hp,-⟩:=KI ho;have hs:=aoA ho hn;have hir:∀ x∈sortB lt D,lt x x=false:=fun x hx=>by
  have hx2:=hp.mem_iff.1 hx
  cases h:lt x x
  · rfl
  · have:=ho.asym x hx2 x hx2 h;rw [h] at this;cases this
 have hkl:k<(sortB lt D).length:=by rw [hp.length_eq];exact hk
 have hr:∀ j (hj:j<(sortB lt D).length),Ey lt D (sortB lt D)[j]=j:=fun j hj=>by
  have:=aoz hs hir hj
  unfold Ey at this ⊢;rw [<- hp.countP_eq];exact this
 rw [avG hkl];unfold Rt
 cases h:D.find? (fun x=>Ey lt D x == k) with
 | none =>
  have:=List.find?_eq_none.1 h _ (hp.mem_iff.1 (avF hkl))
  rw [hr k hkl] at this;simp at this
 | some x =>
  have h1:=List.find?_some h;have h2:=List.mem_of_find?_eq_some h;obtain ⟨j,hj,rfl⟩:=avI.1 (hp.mem_iff.2 h2);rw [hr j hj] at h1
  have:j=k:=by simpa using h1
  subst this;rfl
theorem aoC (p:Pl) (o:Pt) (d e:Int):ltD p o d e=Fq o (fC p d) (fC p e):=akn _ _ _
end Go.Proofs.YtialfdomhoojiaaGreat
