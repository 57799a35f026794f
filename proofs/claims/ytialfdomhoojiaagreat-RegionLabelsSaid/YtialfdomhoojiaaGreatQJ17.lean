import Derived.Test.YtialfdomhoojiaaGreatQJ16
import Derived.Shelf.SortM.Plain
import Derived.Shelf.SortM.SortNone
import Derived.Test.YtialfdomhoojiaaGreatLaySortN
set_option linter.unusedSimpArgs false
set_option linter.unusedVariables false
set_option maxRecDepth 100000
set_option maxHeartbeats 4000000
namespace Go.Proofs.YtialfdomhoojiaaGreat
open Go.RowKit Go.Sort
def ZV (l:List Int) (x:Int):Int:=match l.findIdx? (fun y=>y == x) with
 | none=>-1
 | some k=>k
theorem asL {l:List Int} {x:Int} {k:Nat} (hk:k<l.length) (hno:∀ j (hj:j<l.length),j<k->(l[j] == x)=false) (he:(l[k] == x)=true):l.findIdx? (fun y=>y == x)=some k:=by
 rw [List.findIdx?_eq_some_iff_getElem];exact ⟨hk,he,fun j hj=>by simpa using hno j AB hj⟩
theorem asM {l:List Int} {x:Int} (hno:∀ j (hj:j<l.length),(l[j] == x)=false):l.findIdx? (fun y=>y == x)=none:=by
 rw [List.findIdx?_eq_none_iff];intro y hy;obtain ⟨j,hj,rfl⟩:=EF.1 hy;exact hno j hj
theorem ais (v:Value) (l:List Int) (x:Int) (w:World) (h:Ints w v l) :
  Calls Tryz.prog 78 #[v,.int .i64 x] w fun e w'=>e=.returned (.int .i64 (ZV l x))/\AU w w':=by
 obtain ⟨A,c,rfl,hn,hc,hR⟩:=h;unfold maxLen at hc;obtain ⟨q,hq⟩:=BN (ZV l x);rw [hq];have Hq:=AA hq;clear hq;go_enter Tryz.func78,Tryz.ntmps78;go_wp2_with fail;go_loopw [8] (fun i wr=>∃ k:Nat,k<=l.length/\i=.int .i64 k/\AU w wr/\∀ j (hj:j<l.length),j<k->(l[j] == x)=false) (fun i _=>l.length-(intOf i).toNat)
 case atStart => exact ⟨0,Bv _,rfl,bR w,fun j _ h=>by omega⟩
 case round =>
  obtain ⟨k,hk,rfl,hb,hno⟩:=hrel;have Hb:=AA hb;have Hno:=AA hno;clear hb hno;by_cases hlt:k<l.length
  ·obtain ⟨b,o,rfl,hlb,c0⟩:=(hR.mono Hb.out).int hlt;have HR:=AA hR;clear hR
   cases he:(l[k] == x)
   ·go_wp2;go_roundw
    case rel => exact ⟨k+1,AB,BJ,Hb.out,all_succ (p:=fun y=>(y == x)=false) Hno.out hlt he⟩
    case measure => exact BL
   ·have hf:=AA (asL hlt Hno.out he);have he2:(x == l[k])=true:=by simpa using (beq_iff_eq.1 he).symm
    go_wp2;go_ret;exact ⟨Df (by rw [<- Hq.out];unfold ZV;rw [hf.out]),Hb.out⟩
  ·have hf:=AA (asM (fun j hj=>Hno.out j hj AB));go_wp2;go_ret;exact ⟨Df (by rw [<- Hq.out];unfold ZV;rw [hf.out]),Hb.out⟩
theorem asN (v:Value) (l:List Int) (d:Int) (w:World) (h:Ints w v l) (hl:l.length<=1000000) :
  Calls Tryz.prog 117 #[v,.int .i64 d] w fun e w'=>e=.returned (.int .i64 (precD l d))/\AU w w':=by
 have HI:=AA (ais v l d w h);obtain ⟨A,c,rfl,hn,hc,hR⟩:=h;unfold maxLen at hc;obtain ⟨q,hq⟩:=BN (precD l d);rw [hq];unfold ZV at HI;unfold precD at hq;have HR:=AA hR;clear hR
 cases hi:l.findIdx? (fun y=>y == d) with
 | none =>
  rw [hi] at HI hq;simp only at HI hq;subst hq;clear hi;go_enter Tryz.func117,Tryz.ntmps117;go_wp2_with fail;refine HI.out.mono ?_;rintro e w1 ⟨rfl,hb1⟩;have B1:=AA hb1;clear hb1;go_wp2;go_ret;exact ⟨rfl,B1.out⟩
 | some k =>
  rw [hi] at HI hq;simp only at HI hq;have hk:k<l.length:=(List.findIdx?_eq_some_iff_getElem.1 hi).1;clear hi;have hm:(k+l.length-1) % l.length<l.length:=UC _ AB;have hq2:l[(k+l.length-1) % l.length]=q:=by
   rw [<- hq];simp only [Fj,Dh hm,H9]
  have htm:Int.tmod ((k:Int)+(l.length:Int)-1) (l.length:Int)=((k+l.length-1) % l.length:Nat):=by
   rw [Int.tmod_eq_emod_of_nonneg AB,show (k:Int)+(l.length:Int)-1=((k+l.length-1:Nat):Int) by omega];exact (Int.natCast_emod _ _).symm
  clear hq;generalize hM:(k+l.length-1) % l.length=m at *;have Hq2:=AA hq2;clear hq2 hM;have h0:¬ (k:Int)<0:=by omega
  have g1:IntKind.i64.wrap ((k:Int)+(l.length:Int))=(k:Int)+(l.length:Int):=D6 _ AB;have g2:IntKind.i64.wrap ((k:Int)+(l.length:Int)-1)=(k:Int)+(l.length:Int)-1:=D6 _ AB;have g3:¬ (l.length:Int)=0:=by omega
  have g4:IntKind.i64.wrap (m:Int)=m:=D6 _ AB;have g5:(m:Int)<l.length:=by omega
  have g6:0<=(m:Int):=by omega
  have hne:l.length≠0:=by omega
  have hne':l≠[]:=by intro e;rw [e] at hne;exact hne rfl
  have Hne:=AA hne;clear hne;go_enter Tryz.func117,Tryz.ntmps117;go_wp2_with fail;refine HI.out.mono ?_;rintro e w1 ⟨rfl,hb1⟩;have B1:=AA hb1;clear hb1;obtain ⟨b,o,rfl,hlb,c0⟩:=(HR.out.mono B1.out).int hm;rw [Hq2.out] at c0;go_wp2;go_ret;exact ⟨rfl,B1.out⟩
theorem Valid.aeJ {p:Pl} (h:Valid p) (n:Int):(DL p n).length<=512:=by
 cases hf:J3 p.nodes n with
 | none=>simp [DL,hf]
 | some nd =>
  have hm:nd∈p.nodes:=VO hf;have hid:nd.id=n:=by have:=List.find?_some hf;simpa using this
  subst hid;rw [(h.NI hm).length_eq];have h1:=yO p.AP nd.id;have hl:=h.lim;unfold Ji at hl;simp only [QC,Iy] at hl;omega
open Go.RowKit Go.Sort
def Pn (l:List Int):List Int:=l.mergeSort fun x y=>decide (x<=y)
theorem aeK (l:List Int):(Pn l).Perm l:=List.mergeSort_perm _ _
theorem ait (l:List Int):(Pn l).length=l.length:=(aeK l).length_eq
theorem aiu (l:List Int):(Pn l).Pairwise (·<=·):=by
 have:=List.pairwise_mergeSort (le:=fun (x y:Int)=>decide (x<=y)) (fun a b c h1 h2=>by simp only [EO] at *;omega) (fun a b=>by simp only [KD,EO];omega) l
 exact this.imp (fun h=>by simpa using h)
theorem asO {l m:List Int} (hp:l.Perm m) (hs:m.Pairwise (· < ·)):Pn l=m:=by
 refine ou (lt:=fun a b=>decide (a<b)) ((aeK l).trans hp) ?_ ?_ (fun a _ b _ h1 h2=>by simp only [Iy] at *;omega)
 · exact (aiu l).imp (fun h=>by simpa using h)
 · exact hs.imp (fun h=>by simp only [Iy];omega)
theorem aeL (w:World) (n:Nat) (blk off:Nat) (d:Array Int) (os:Array Obj):(grow (putRow (Value.int .i64) (Sort.ahead w n) blk off d) os).heap=w.heap.modify blk (onCells (putCells (Value.int .i64) off d))++os:=rfl
theorem asP (w:World) (n:Nat) (blk off:Nat) (d:Array Int) (os:Array Obj):w.grownBy (grow (putRow (Value.int .i64) (Sort.ahead w n) blk off d) os) (some blk):=by
 refine ⟨rfl,rfl,rfl,?_,fun i hi hne=>?_⟩
 · rw [aeL];simp
 ·have hne':blk≠i:=fun e=>hne Rt;rw [aeL,Array.getElem?_append_left mF,Array.getElem?_modify,AX hne']
theorem aiv (base:Nat) (v:Value) (sl:List Int) (w:World) (hown:Own w base 3 1 DR v sl) (hn:sl.length<=4294967296) :
  Calls Tryz.prog 118 #[v] w (aiX w base v (Pn sl)):=by
 rcases sl with _ | ⟨s0,rest⟩
 ·have hv:∃ p cap,v=.slice p 0 cap:=by
   rcases hown.2 with ⟨h,_⟩ | ⟨g,cap,cur,h,_⟩
   · exact ⟨_,_,h⟩
   · exact ⟨_,_,h⟩
  obtain ⟨p,cap,rfl⟩:=hv;refine Calls.mono (AnyM.slices_Sort_int_none Tryz.sortN p cap w) ?_;rintro e w' ⟨rfl,rfl⟩;exact ⟨rfl,by rw [show Pn []=[] by simp [Pn]];exact hown,World.grownBy.refl _ _⟩
 generalize hsl:s0::rest=sl at *;have hpos:0<sl.length:=by rw [<- hsl];simp
 obtain ⟨hlen,hown2⟩:=hown;rcases hown2 with ⟨_,h0⟩ | ⟨g,cap,cur,rfl,hg,hh,hnc,hcm,hcs,hx⟩
 · omega
 have hcur:∀ j,j<sl.length->cur[j]? = (sl[j]?).map (.int .i64 ·):=fun j hj=>by
  rw [<- aCp,<- hx,List.getElem?_take,AZ AB];simp
 have hH:Holds (Value.int .i64) w g 0 sl.toArray:=fun j hj=>by
  have hj':j<sl.length:=by simpa using hj
  refine ⟨?_,AO.frozen (t:=3) (cs:=cur) hh _⟩;rw [cell_of_row w g _ cur 3 (0,0) hh,Qm,hcur j hj',getElem!_pos sl.toArray j hj,Dh hj'];simp
 refine Calls.mono (AnyM.slices_Sort_int Tryz.sortN g 0 cap sl w hH (AO.lt hh) AB) ?_;rintro e w' ⟨rfl,n,os,rfl⟩;have hl':(Pn sl).length=sl.length:=ait sl;refine ⟨rfl,?_,asP w n g 0 _ os⟩;unfold Own;rw [hl'];refine ⟨by rw [aCq,hl'];omega,.inr ⟨g,cap,putCells (Value.int .i64) 0 (Pn sl).toArray cur,rfl,hg,?_,hnc,hcm,tH,?_⟩⟩
 ·have hgl:g<w.heap.size:=AO.lt hh
  show (grow (putRow (Value.int .i64) (Sort.ahead w n) g 0 (Pn sl).toArray) os).heap[g]? = _
  rw [aeL,Array.getElem?_append_left (by simpa using hgl),Array.getElem?_modify,AZ rfl,hh];rfl
 ·apply lZ;intro j;rw [List.getElem?_take];by_cases hj:j<sl.length*1
  ·rw [AZ hj];have hjc:j<cur.size:=by rw [hcs];omega
   have hjd:j<(Pn sl).length:=by rw [hl'];omega
   rw [aCp,Dh hjd];have e1:(putCells (Value.int .i64) 0 (Pn sl).toArray cur).toList[j]? = some (.int .i64 (Pn sl).toArray[j]!):=by
    simp [putCells,hjc,hjd]
   rw [e1,getElem!_pos (Pn sl).toArray j (by simpa using hjd)];simp
  · rw [AX hj,YN (by rw [aCq,hl'];omega)]
def Ia (x:List Int×SV):List Value:=[.slice x.2.a x.2.n x.2.c]
theorem XZ (x:List Int×SV):(Ia x).length=1:=rfl
theorem ZW (x:List Int×SV):∀ u∈Ia x,u.oneCell'=true:=by simp [Ia,Value.oneCell']
theorem ZX:Elem Tryz.prog 60 24 1 24:=Elem.PU (z:=.slice none 0 0) I8 I8 rfl AB
def Ti (w:World) (B:Nat) (v:Value) (L:List (List Int×SV)):Prop :=
 Own w B 24 1 Ia v L/\∀ x∈L,Own w B 3 1 DR (.slice x.2.a x.2.n x.2.c) x.1
theorem Ti.keep {w w':World} {B:Nat} {v:Value} {L:List (List Int×SV)} (h:Ti w B v L) (hb:AU w w'):Ti w' B v L :=
 ⟨h.1.keep hb,fun x hx=>(h.2 x hx).keep hb⟩
def aeM (w:World) (l:List (List Int)) (z:Int) (e:Ending) (w':World):Prop :=
 ∃ A c L,e=.returned (.tuple #[.slice A l.length c,.int .i64 z])/\AU w w'/\L.map (·.1)=l/\Ti w' w.heap.size (.slice A l.length c) L
theorem xB {w:World} {gm n:Nat} {f:Int->Int} (h:Gy w gm n f) {g:Nat} {t:TypeId} {cs:Array Value} (hg:AO w g t cs):g≠gm:=by
 rintro rfl;obtain ⟨D,h1,-⟩:=h;obtain ⟨es,clock,h2,-⟩:=h1;unfold AO at hg;rw [hg] at h2
 cases h2
theorem xC {w:World} {gm n:Nat} {f:Int->Int} (h:Gy w gm n f) {base:Nat} {e:TypeId} {size:Nat} {α:Type} {fe:α->List Value} {v:Value} {l:List α} (ho:Own w base e size fe v l):v.ownBlock≠some gm:=by
 rcases ho.2 with ⟨rfl,_⟩ | ⟨g,cap,cur,rfl,_,hh,_⟩
 · simp [Value.ownBlock]
 ·intro e';exact xB h (cs:=cur) (g:=g) hh sZ
theorem Own.row_in {w:World} {base:Nat} {A:Option Addr} {n c:Nat} {l:List Int} (h:Own w base 3 1 DR (.slice A n c) l):Row w A (l.flatMap DR):=by
 obtain ⟨A',c',he,_,_,hr⟩:=h.sl;injection he with e1 e2 e3;subst e1;exact hr
def LP (p:Pl) (k:Nat):List Int:=(p.nodes.take k).flatMap fun n=>DL p n.id
def nU (p:Pl) (F:Int->Int) (L:List Int):Prop:=∀ e∈L,F (-e)=FH p (-e)
theorem aiw (p:Pl) (k:Nat) (hk:k<p.nodes.length):LP p (k+1)=LP p k++DL p p.nodes[k].id:=by
 unfold LP;rw [F7 hk,LC];simp
theorem aix {p:Pl} (h:Valid p) (k:Nat):(LP p k).length<=512*k:=by
 induction k with
 | zero=>simp [LP]
 | succ k ih =>
  by_cases hk:k<p.nodes.length
  ·rw [aiw p k hk,ER];have:=h.aeJ p.nodes[k].id
   omega
  ·have:LP p (k+1)=LP p k:=by
    unfold LP;rw [IQ AB,IQ AB]
   rw [this];omega
theorem aBj (p:Pl):LP p p.nodes.length=p.nodes.flatMap fun n=>DL p n.id:=by
 unfold LP;rw [I4]
theorem nU.snoc {p:Pl} {F:Int->Int} {L:List Int} (h:nU p F L) {d x:Int} (hx:FH p (-d)=x):nU p (fun i=>if i=-d then x else F i) (L++[d]):=by
 intro e he;by_cases hd:e=d
 · subst hd;simp [hx]
 ·have hne:-e≠-d:=by omega
  simp only [FX,EP,hd,or_false] at he;simp only [hne,if_false];exact h e he
section
variable {p:Pl} (h:Valid p)
include h
theorem Valid.aeN {n:Nd} (hn:n∈p.nodes) {d:Int} (hd:d∈DL p n.id):FH p (-d)=precD (DL p n.id) d/\d∈Bh p:=by
 obtain ⟨h1,h2⟩:=h.jD ((h.NI hn).subset hd);obtain ⟨n',hn',e,hm,hx⟩:=h.ng (Wu h1);rw [Oj] at e hm hx;exact ⟨by rw [hx,e,h2],h1⟩
theorem Valid.Qh {d:Int} (hd:d∈Bh p):-1073741824<=d/\d<=1073741824:=by
 obtain ⟨a,ha,e⟩:=Iq.1 hd;have:=h.Gx ha
 omega
theorem Valid.asQ:Pn (LP p p.nodes.length)=Bh p:=by
 rw [aBj];exact asO h.aB0 h.aAz
theorem Valid.asR {F:Int->Int} (hF:nU p F (LP p p.nodes.length)) {d:Int} (hd:d∈Bh p):F d=FH p d:=by
 have h1:-d∈LP p p.nodes.length:=by
  rw [aBj];exact h.aB0.symm.subset (Wu hd)
 have:=hF _ h1
 rwa [Oj] at this
theorem Valid.aiy:(Bh p).length<=512:=by
 have hl:=h.lim;unfold Ji at hl;simp only [QC,Iy] at hl;unfold Bh;simp only [ER,XU,Cj];omega
theorem Valid.jU:p.nodes.length<=256:=by
 have hl:=h.lim;unfold Ji at hl;simp only [QC,Iy] at hl;omega
theorem Valid.aiz (k:Nat):Oo (FH p) (Bh p) ((Bh p).take k) (((Bh p).take k).foldl (Om (FH p) (Bh p)) []):=by
 have:=adL (f:=FH p) (D:=Bh p) (fun x hx=>(h.QT hx).1) (fun x hx y hy=>h.Xn hx hy) ((Bh p).take k) [] [] (Oo.nil _ _) (fun x hx=>aAG hx) (by rw [Qj];exact h.aAz.sublist (List.take_sublist _ _))
 rwa [Qj] at this
end
theorem aj0 (f:Int->Int) (D:List Int) (k:Nat) (hk:k<D.length):(D.take (k+1)).foldl (Om f D) []=Om f D ((D.take k).foldl (Om f D) []) D[k]:=by
 rw [F7 hk,Oi];rfl
def Nl (Q:List Int):List (Int×Int):=(List.range Q.length).map fun j=>(-(Q.getD ((j+1) % Q.length) 0),Q.getD j 0)
def Np (p:Pl) (k:Nat):List (Int×Int):=(p.nodes.take k).flatMap fun n=>Nl (DL p n.id)
theorem nV (Q:List Int):(Nl Q).length=Q.length:=by simp [Nl]
theorem asT (p:Pl) (k:Nat) (hk:k<p.nodes.length):Np p (k+1)=Np p k++Nl (DL p p.nodes[k].id):=by
 unfold Np;rw [F7 hk,LC];simp
theorem aiN (p:Pl) (k:Nat):(Np p k).length=(LP p k).length:=by
 unfold Np LP;rw [List.length_flatMap,List.length_flatMap];congr 1;exact aAD fun n _=>nV _
theorem asU (Q:List Int) (j:Nat) (hj:j<Q.length) (hm:(j+1) % Q.length<Q.length):(Nl Q).take (j+1)=(Nl Q).take j++[(-Q[(j+1) % Q.length],Q[j])]:=by
 have h:j<(Nl Q).length:=by rw [nV];exact hj
 rw [F7 h];congr 2;simp only [Nl,Gp,List.getElem_range,Fj,Dh hm,Dh hj,H9]
theorem asV (Q:List Int):(Nl Q).take Q.length=Nl Q:=IQ (by rw [nV];exact Dc _)
theorem arY {Q:List Int} {x:Int×Int} (h:x∈Nl Q):∃ j,∃ hj:j<Q.length,∃ hm:(j+1) % Q.length<Q.length,x=(-Q[(j+1) % Q.length],Q[j]):=by
 unfold Nl at h;obtain ⟨j,hj,rfl⟩:=ED.1 h;rw [Et] at hj;have hm:(j+1) % Q.length<Q.length:=UC _ AB;exact ⟨j,hj,hm,by simp only [Fj,Dh hm,Dh hj,H9]⟩
theorem arZ {j N:Nat} (hj:j<N):j=((j+1) % N+N-1) % N:=by
 by_cases e:j+1=N
 ·subst e;rw [Nat.mod_self];have:(0+(j+1)-1) % (j+1)=j:=by rw [show 0+(j+1)-1=j by omega];exact XP AB
  exact this.symm
 · rw [XP (show j+1<N by omega),show j+1+N-1=j+N by omega,aAJ,XP hj]
section
variable {p:Pl} (h:Valid p)
include h
theorem Valid.ara {x:Int×Int} (hx:x∈Np p p.nodes.length):x.1∈Bh p/\x.2=FH p x.1:=by
 unfold Np at hx;rw [I4] at hx;obtain ⟨n,hn,hx⟩:=Gf.1 hx;obtain ⟨j,hj,hm,rfl⟩:=arY hx;have hnd:=h.bI hn;have h1:=h.aeN hn (BO hm);refine ⟨Wu h1.2,?_⟩
 show (DL p n.id)[j]=FH p (-(DL p n.id)[(j+1) % (DL p n.id).length])
 rw [h1.1,jC hnd hm];congr 1;exact arZ hj
theorem Valid.arb {d:Int} (hd:d∈Bh p):d∈(Np p p.nodes.length).map (·.1):=by
 obtain ⟨n,hn,-,hm⟩:=h.adP (Wu hd);have hq:=(h.NI hn).symm.subset hm;obtain ⟨i,hi,e⟩:=EF.1 hq;rw [ED];have key:∃ j,j<(DL p n.id).length/\(j+1) % (DL p n.id).length=i:=by
  by_cases e0:i=0
  ·subst e0;exact ⟨(DL p n.id).length-1,AB,by rw [aax AB,Nat.mod_self]⟩
  · exact ⟨i-1,AB,by rw [aax AB,XP hi]⟩
 obtain ⟨j,hj,hji⟩:=key;refine ⟨(-((DL p n.id).getD ((j+1) % (DL p n.id).length) 0),(DL p n.id).getD j 0),?_,?_⟩
 ·unfold Np;rw [I4,Gf];exact ⟨n,hn,ED.2 ⟨j,Et.2 hj,rfl⟩⟩
 ·show -((DL p n.id).getD ((j+1) % (DL p n.id).length) 0)=d
  rw [hji,Fj,Dh hi,H9,e];omega
theorem Valid.ard:(Np p p.nodes.length).length=(Bh p).length:=by
 rw [aiN,aBj];exact h.aB0.length_eq
end
open Go.RowKit Go.Sort
theorem arf (v:Value) (l:List Int) (x:Int) (w:World) (h:Ints w v l) :
  Calls Tryz.prog 194 #[v,.int .i64 x] w fun e w'=>e=.returned (.bool (l.any fun y=>y == x))/\AU w w':=by
 obtain ⟨A,c,rfl,hn,hc,hR⟩:=h;unfold maxLen at hc;obtain ⟨q,hq⟩:=BN ((l.any fun y=>y == x));rw [hq];have Hq:=AA hq;clear hq;go_enter Tryz.func194,Tryz.ntmps194;go_wp2_with fail;go_loopw [5] (fun i wr=>∃ k:Nat,k<=l.length/\i=.int .i64 k/\AU w wr/\∀ j (hj:j<l.length),j<k->(fun y=>y == x) l[j]=false) (fun i _=>l.length-(intOf i).toNat)
 case atStart => exact ⟨0,Bv _,rfl,bR w,fun j _ h=>by omega⟩
 case round =>
  obtain ⟨k,hk,rfl,hb,hno⟩:=hrel;have Hb:=AA hb;have Hno:=AA hno;clear hb hno;by_cases hlt:k<l.length
  ·obtain ⟨b,o,rfl,hlb,c0⟩:=(hR.mono Hb.out).int hlt;have HR:=AA hR;clear hR
   cases he:(l[k] == x)
   ·go_wp2;go_roundw
    case rel => exact ⟨k+1,AB,BJ,Hb.out,all_succ (p:=fun y=>(fun y=>y == x) y=false) Hno.out hlt he⟩
    case measure => exact BL
   ·have hf:=SB l (fun y=>y == x) k hlt he;rw [Hq.out] at hf;subst hf;go_wp2;go_ret;exact ⟨rfl,Hb.out⟩
  ·have hf:=Ue l (fun y=>y == x) (fun j hj=>Hno.out j hj AB);rw [Hq.out] at hf;subst hf;go_wp2;go_ret;exact ⟨rfl,Hb.out⟩
theorem arh (v:Value) (p:Pl) (w:World) (h:Ci w v p) (hv:Valid p) :
  Calls Tryz.prog 193 #[v] w (aBh w (Bh p)):=by
 obtain ⟨_,_,_,al,rfl,hpa,⟨An,cn,rfl,-⟩,⟨⟨Aa,ca,rfl,hn1,hn2,hR⟩,-⟩,⟨Af,cf,rfl,-⟩⟩:=h;unfold maxLen at hn2;have hall:al.length<=256:=by
  have hl:=hv.lim;unfold Ji at hl;simp only [QC,Iy] at hl;have h2:=hl.2;rw [hpa,Cj] at h2;omega
 have fJ:=AA (show ∀ k (hk:k<al.length),1<=al[k].1.id/\al[k].1.id<=1073741824 from fun k hk=>hv.Gx (by rw [hpa];exact Gh (BO hk)));obtain ⟨q,hq⟩:=BN (Bh p);rw [hq];have hq2:(al.map fun x=>-x.1.id).reverse++al.map (fun x=>x.1.id)=q:=by rw [<- hq];unfold Bh;rw [hpa,IV,IV];rfl
 have Hq:=AA hq2;have HR:=AA hR;generalize p.nodes.length=nn at *;generalize p.faces.length=nf at *;have k0:IntKind.i64.wrap ((al.length:Int)-1)=(al.length:Int)-1:=D6 _ AB;clear hpa hR hv hq hq2;go_enter Tryz.func193,Tryz.ntmps193;go_wp2_with fail;obtain ⟨W0,hW⟩:=BR (w.alloc (.cells #[.slice An nn cn,.slice Aa al.length ca,.slice Af nf cf] 26));have HB0:=AA (show AU w W0 by rw [hW];exact bA (bR w) _);have Dt:=AA (show AO W0 w.heap.size 26 #[.slice An nn cn,.slice Aa al.length ca,.slice Af nf cf] by rw [hW];exact AO.made rfl _ _);rw [<- hW];clear hW;have hz0:=Dt.out.lt;go_loopw [3,4] (fun s i wr=>∃ m:Nat,m<=al.length/\i=.int .i64 ((m:Int)-1)/\Own wr W0.heap.size 3 1 DR s ((al.drop m).map fun x=>-x.1.id).reverse/\AU W0 wr) (fun _ i _=>((intOf i)+1).toNat)
 case atStart => exact ⟨al.length,Dc _,rfl,by rw [aaq];exact Own.nil _ _ _ _ _,bR W0⟩
 case round =>
  obtain ⟨m,hm,rfl,ho,hb⟩:=hrel;have Ho:=AA ho;have Hb:=AA hb;have X1:=Dt.out.keep hb;have hzr:=hb.size;clear ho hb;obtain ⟨BF,BG,BH,BI,-,-,-⟩:=X1.Az;by_cases hlt:0<m
  case pos =>
   obtain ⟨j,rfl⟩:∃ j,m=j+1:=⟨m-1,AB⟩;have hj:j<al.length:=by omega
   obtain ⟨b,o,rfl,hlb,c0,-⟩:=(HR.out.mono (bT HB0.out Hb.out)).ar hj;have hid:=fJ.out j hj;have hst:((al.drop j).map fun x=>-x.1.id).reverse=((al.drop (j+1)).map fun x=>-x.1.id).reverse++[-al[j].1.id]:=by
    rw [Ql hj,FM,List.reverse_cons]
   have DU:=AA hst;have hll:(((al.drop (j+1)).map fun x=>-x.1.id).reverse).length<=256:=by simp;omega
   have JQ:=AA hll;clear hst hll;generalize ((al.drop (j+1)).map fun x=>-x.1.id).reverse=L at *;generalize al[j].1.id=d at *;have k1:IntKind.i64.wrap (-d)=-d:=D6 _ AB;have k2:((j+1:Nat):Int)-1=(j:Int):=by omega
   have k3:(0:Int)<=(j:Int):=by omega
   have k4:(j:Int)<al.length:=by omega
   have k5:IntKind.i64.wrap ((j:Int)-1)=(j:Int)-1:=D6 _ AB;rw [k2];obtain ⟨s,rfl⟩:=BR u3;clear hid;go_wp2_with
    (at_builtin
     refine FK _ rfl (.tmp 14) (.tmp 22) _ rfl (base:=W0.heap.size) JW Iz JR rfl (Own.alloc Ho.out _) rfl (l2:=[-d]) (Sl.lit (n:=1) (AO.made rfl _ _) rfl (DN AB)) sV sV DT ?_;intro v1 w1 ho1 hg1 XY;have Hg:=AA ho1;have HB1:=AA (Below.grown (Below.alloc Hb.out AB _) hg1 DT (fun g hg=>(Ho.out.lt g hg).1));clear ho1 hg1 XY)
   go_roundw
   case rel => exact ⟨j,AB,rfl,by rw [DU.out];exact Hg.out,HB1.out⟩
   case measure => simp [intOf]
  case neg =>
   have h0:m=0:=by omega
   subst h0;have k3:¬ (0:Int)<=((0:Nat):Int)-1:=by omega
   rw [sG] at Ho;generalize hL1:(al.map fun x=>-x.1.id).reverse=L1 at *;have hl1:L1.length<=256:=by rw [<- hL1];simp;omega
   have RD:=AA hl1;clear hL1 hl1;have OO:=AA Hq.out;clear Hq;go_wp2_with fail;obtain ⟨wo,rfl⟩:=BR wr;obtain ⟨s0,rfl⟩:∃ s:Value,s=u3:=⟨_,rfl⟩;go_loopw [3,5] (fun s i wr=>∃ k:Nat,k<=al.length/\i=.int .i64 k/\Own wr W0.heap.size 3 1 DR s (L1++(al.take k).map fun x=>x.1.id)/\AU W0 wr) (fun _ i _=>al.length-(intOf i).toNat)
   case atStart => exact ⟨0,Bv _,rfl,by simpa using Ho.out,Hb.out⟩
   case round =>
    obtain ⟨k,hk,rfl,ho,hb⟩:=hrel;have ZY:=AA ho;have Hb2:=AA hb;replace X1:=Dt.out.keep hb;have ari:=hb.size;clear ho hb BF BG BH BI
    try clear BF BG BH BI
    obtain ⟨BF,BG,BH,BI,-,-,-⟩:=X1.Az;by_cases hlt2:k<al.length
    case pos =>
     obtain ⟨b,o,rfl,hlb,c0,-⟩:=(HR.out.mono (bT HB0.out Hb2.out)).ar hlt2;have hst:L1++(al.take (k+1)).map (fun x=>x.1.id)=(L1++(al.take k).map fun x=>x.1.id)++[al[k].1.id]:=by
      rw [F7 hlt2,GI,KW];rfl
     have DU:=AA hst;have hll:(L1++(al.take k).map fun x=>x.1.id).length<=512:=by
      have:=RD.out
      simp only [ER,Cj,Iw];omega
     have JQ:=AA hll;clear hst hll;generalize L1++(al.take k).map (fun x=>x.1.id)=L at *;generalize al[k].1.id=d at *;have k4:(k:Int)<al.length:=by omega
     obtain ⟨s,rfl⟩:=BR u3;go_wp2_with
      (at_builtin
       refine FK _ rfl (.tmp 31) (.tmp 38) _ rfl (base:=W0.heap.size) JW Iz JR rfl (Own.alloc ZY.out _) rfl (l2:=[d]) (Sl.lit (n:=1) (AO.made rfl _ _) rfl (DN AB)) sV sV DT ?_;intro v1 w1 ho1 hg1 XY;have Hg:=AA ho1;have HB1:=AA (Below.grown (Below.alloc Hb2.out AB _) hg1 DT (fun g hg=>(ZY.out.lt g hg).1));clear ho1 hg1 XY)
     go_roundw
     case rel => exact ⟨k+1,AB,BJ,by rw [DU.out];exact Hg.out,HB1.out⟩
     case measure => exact BL
    case neg =>
     have hkk:k=al.length:=by omega
     subst hkk;have ho2:=ZY.out;rw [I4,OO.out] at ho2;obtain ⟨A,c,rfl,-⟩:=Own.shape ho2;have F9:=AA ho2;clear ho2 ZY;go_wp2;go_ret;exact ⟨A,c,rfl,bT HB0.out Hb2.out,F9.out.ES AB⟩
open Go.RowKit Go.Sort
def Lp (p:Pl) (d:Int):Pt:=(Tz p d).getD 1 AY
theorem Valid.arj {p:Pl} (h:Valid p) {n d:Int} (hd:d∈Dl p.AP n):Lp p d=Dy p d:=by
 obtain ⟨a,ha,e⟩:=Rl.1 hd;have hid:=h.Gx ha;unfold Lp;rcases e with ⟨rfl,-⟩ | ⟨rfl,-⟩
 · rw [vU h (h.iK ha),AZ AB,h.jV ha]
 ·rw [vU h (h.pF ha),AX AB,h.bF ha];have hl:=Ey p a;simp only [Fj];rw [List.getElem?_reverse AB];congr 2;omega
theorem ark (v:Value) (p:Pl) (d:Int) (w:World) (h:Ci w v p) (hs:Short p) (hd:-9223372036854775808<d/\d<=9223372036854775807) :
  Calls Tryz.prog 274 #[v,.int .i64 d] w fun e w'=>e=.returned (.agg #[.int .i64 (Lp p d).x,.int .i64 (Lp p d).y])/\AU w w':=by
 have HA:=AA (fun W (hW:AU w W)=>aiH v p d W (h.mono hW) hs hd);obtain ⟨_,_,_,al,rfl,hpa,⟨An,cn,rfl,-⟩,⟨⟨Aa,ca,rfl,-⟩,-⟩,⟨Af,cf,rfl,-⟩⟩:=h;unfold Lp;generalize al.length=na at *;generalize p.nodes.length=nn at *;generalize p.faces.length=nf at *;clear hpa hs;generalize Tz p d=P at *;obtain ⟨q,hq⟩:=BN (P.getD 1 AY);rw [hq];have Hq:=AA hq;clear hq;unfold bU at HA;go_enter Tryz.func274,Tryz.ntmps274;go_wp2_with fail;refine (HA.out _ (bA (bA (bR w) _) _)).mono ?_;rintro e w1 ⟨A1,c1,rfl,hb1,ho1⟩;have B1:=AA (bT (bA (bA (bR w) _) _) hb1);have X4:AO w1 (w.heap.size+1) 39 #[.int .i64 0,.int .i64 0]:=(AO.made Ak _ _).keep hb1;obtain ⟨Aq,cq,he,hq1,hq2,U0⟩:=ho1.sl;injection he with e1 e2 e3;subst e1 e3;clear e2;unfold maxLen at hq2;have bK:=AA U0;clear hb1 ho1 U0 HA hd;obtain ⟨BZ,Bl,CQ,EG,FW⟩:=X4.BQ;by_cases hl:P.length<2
 case pos =>
  have hg:P.getD 1 AY=AY:=by
   simp only [Fj,YN (show P.length<=1 by omega),rV]
  rw [Hq.out] at hg;subst hg;have hl':(P.length:Int)<2:=by omega
  clear Hq;generalize P.length=n at *;go_wp2_with fail;refine iL (t:=39) (g:=w.heap.size+1) (cs:=#[.int .i64 0,.int .i64 0]) rfl Xv rfl rfl (AO.QF X4) ⟨rfl,?_⟩;have Bw:=B1.out;exact EC
 case neg =>
  have hP1:1<P.length:=by omega
  obtain ⟨b1,o1,rfl,hlb,e0,e1⟩:=bK.out.pt hP1;have hg:P.getD 1 AY=P[1]:=by simp only [Fj,Dh hP1,H9]
  rw [Hq.out] at hg;rw [<- hg] at e0 e1;clear hg bK Hq;simp only [Nat.one_mul] at e0 e1;have hl':¬ (P.length:Int)<2:=by omega
  have hl2:(1:Int)<(P.length:Int):=by omega
  generalize P.length=n at *;go_wp2_with fail;refine iL (t:=39) (g:=w.heap.size+1) (cs:=#[.int .i64 q.x,.int .i64 q.y]) rfl Xv rfl rfl (AO.QF X4) ⟨rfl,?_⟩;have Bw:=B1.out;exact EC
def Xa (lt:Int->Int->Bool) (D:List Int) (x:Int):Nat:=D.countP (fun y=>lt y x)
def xG (lt:Int->Int->Bool) (D:List Int) (k:Nat):Option Int:=D.find? (fun x=>Xa lt D x == k)
theorem arl {lt:Int->Int->Bool} {S:List Int} (hs:S.Pairwise (fun a b=>lt a b=true/\lt b a=false)) (hir:∀ x∈S,lt x x=false) {k:Nat} (hk:k<S.length):Xa lt S S[k]=k:=by
 have hP:=Fa.1 hs;obtain ⟨c,hc⟩:=BN (S[k]);have e:S=S.take k++S[k]::S.drop (k+1):=by rw [<- Ql hk,Zo]
 have h1:(S.take k).countP (fun y=>lt y S[k])=k:=by
  have h2:(S.take k).countP (fun y=>lt y S[k])=(S.take k).length:=List.countP_eq_length.2 (fun a ha=>by
   obtain ⟨j,hj,rfl⟩:=EF.1 ha;rw [Iw] at hj;rw [List.getElem_take];exact (hP j k AB hk AB).1)
  rw [h2,Iw];omega
 have h3:(S.drop (k+1)).countP (fun y=>lt y S[k])=0:=aAH.2 (fun a ha=>by
  obtain ⟨j,hj,rfl⟩:=EF.1 ha;rw [mD] at hj;rw [List.getElem_drop];have:=(hP k (k+1+j) hk AB AB).2
  rw [this];decide)
 unfold Xa;rw [hc] at h1 h3 e ⊢;have hcc:=hir c (hc ▸ BO hk)
 conv=>lhs;rw [e]
 rw [abN,List.countP_cons,h1,h3,hcc];simp
theorem arn {lt:Int->Int->Bool} {D:List Int} (ho:Yn lt D) (hn:D.Nodup):(sortB lt D).Pairwise (fun a b=>lt a b=true/\lt b a=false):=by
 obtain ⟨hp,hs⟩:=jB ho;have hn2:(sortB lt D).Nodup:=hp.nodup_iff.2 hn;rw [Fa] at hs ⊢;intro i j hi hj hij;have h1:=hs i j hi hj hij;refine ⟨?_,h1⟩
 cases h:lt (sortB lt D)[i] (sortB lt D)[j]
 ·have e:=ho.tri _ (hp.mem_iff.1 (BO hi)) _ (hp.mem_iff.1 (BO hj)) h h1;have:=(Fa.1 hn2) i j hi hj hij
  exact absurd e this
 · rfl
theorem aro {lt:Int->Int->Bool} {D:List Int} (ho:Yn lt D) (hn:D.Nodup) {k:Nat} (hk:k<D.length):xG lt D k=(sortB lt D)[k]? := by
 obtain ⟨hp,-⟩:=jB ho;have hs:=arn ho hn;have hir:∀ x∈sortB lt D,lt x x=false:=fun x hx=>by
  have hx2:=hp.mem_iff.1 hx
  cases h:lt x x
  · rfl
  · have:=ho.asym x hx2 x hx2 h;rw [h] at this;cases this
 have hkl:k<(sortB lt D).length:=by rw [hp.length_eq];exact hk
 have hr:∀ j (hj:j<(sortB lt D).length),Xa lt D (sortB lt D)[j]=j:=fun j hj=>by
  have:=arl hs hir hj
  unfold Xa at this ⊢;rw [<- hp.countP_eq];exact this
 rw [Dh hkl];unfold xG
 cases h:D.find? (fun x=>Xa lt D x == k) with
 | none =>
  have:=List.find?_eq_none.1 h _ (hp.mem_iff.1 (BO hkl))
  rw [hr k hkl] at this;simp at this
 | some x =>
  have h1:=List.find?_some h;have h2:=VO h;obtain ⟨j,hj,rfl⟩:=EF.1 (hp.mem_iff.2 h2);rw [hr j hj] at h1
  have:j=k:=by simpa using h1
  subst this;rfl
theorem arp (p:Pl) (o:Pt) (d e:Int):ltD p o d e=YV o (Dy p d) (Dy p e):=ant _ _ _
