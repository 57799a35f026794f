import Derived.Test.YtpempeioeiaijaaGreatJ11
import Derived.Shelf.SortM.Plain
import Derived.Shelf.SortM.SortNone
import Derived.Test.YtpempeioeiaijaaGreatJ10
import Derived.Test.YtpempeioeiaijaaGreatJ06
import Derived.Test.YtpempeioeiaijaaGreatLaySortN
set_option linter.unusedSimpArgs false
set_option linter.unusedVariables false
namespace Go.Proofs.YtpempeioeiaijaaGreat
open Go.RowKit Go.Sort

def idxZ (l:List Int) (x:Int):Int:=match l.findIdx? (fun y=>y == x) with
 | none=>-1
 | some k=>k
theorem idx_hit {l:List Int} {x:Int} {k:Nat} (hk:k<l.length) (hno:∀ j (hj:j<l.length),j<k→(l[j] == x)=false) (he:(l[k] == x)=true):l.findIdx? (fun y=>y == x)=some k:=by
 rw [List.findIdx?_eq_some_iff_getElem]
 exact ⟨hk,he,fun j hj=>by simpa using hno j (by omega) hj⟩
theorem idx_miss {l:List Int} {x:Int} (hno:∀ j (hj:j<l.length),(l[j] == x)=false):l.findIdx? (fun y=>y == x)=none:=by
 rw [List.findIdx?_eq_none_iff]
 intro y hy
 obtain ⟨j,hj,rfl⟩:=List.mem_iff_getElem.1 hy
 exact hno j hj
set_option maxHeartbeats 400000 in
theorem Index_at_spec (v:Value) (l:List Int) (x:Int) (w:World) (h:Ints w v l) :
  Calls Tryz.prog 141 #[v,.int .i64 x] w fun e w'=>e=.returned (.int .i64 (idxZ l x))∧Below w.heap.size w w':=by
 obtain ⟨A,c,rfl,hn,hc,hR⟩:=h
 unfold maxLen at hc
 obtain ⟨q,hq⟩:∃ q,idxZ l x=q:=⟨_,rfl⟩
 rw [hq]
 have Hq:=Lib.hid hq;clear hq
 go_enter Tryz.func141,Tryz.ntmps141
 go_wp2_with fail
 go_loopw [8] (fun i wr=>∃ k:Nat,k≤l.length∧i=.int .i64 k∧Below w.heap.size w wr∧∀ j (hj:j<l.length),j<k→(l[j] == x)=false) (fun i _=>l.length-(intOf i).toNat)
 case atStart => exact ⟨0,Nat.zero_le _,rfl,bR w,fun j _ h=>by omega⟩
 case round =>
  obtain ⟨k,hk,rfl,hb,hno⟩:=hrel
  have Hb:=Lib.hid hb
  have Hno:=Lib.hid hno
  clear hb hno
  by_cases hlt:k<l.length
  ·
   obtain ⟨b,o,rfl,hlb,c0⟩:=(hR.mono Hb.out).int hlt
   have HR:=Lib.hid hR;clear hR
   cases he:(l[k] == x)
   ·
    go_wp2_with fail
    go_roundw
    case rel => exact ⟨k+1,by omega,by go_num,Hb.out,all_succ (p:=fun y=>(y == x)=false) Hno.out hlt he⟩
    case measure => simp [intOf];omega
   ·
    have hf:=Lib.hid (idx_hit hlt Hno.out he)
    have he2:(x == l[k])=true:=by simpa using (beq_iff_eq.1 he).symm
    go_wp2_with fail
    go_ret
    exact ⟨ret_int (by rw [← Hq.out];unfold idxZ;rw [hf.out]),Hb.out⟩
  ·
   have hf:=Lib.hid (idx_miss (fun j hj=>Hno.out j hj (by omega)))
   go_wp2_with fail
   go_ret
   exact ⟨ret_int (by rw [← Hq.out];unfold idxZ;rw [hf.out]),Hb.out⟩

set_option maxHeartbeats 1000000 in
theorem preceding_spec (v:Value) (l:List Int) (d:Int) (w:World) (h:Ints w v l) (hl:l.length≤1000000) :
  Calls Tryz.prog 120 #[v,.int .i64 d] w fun e w'=>e=.returned (.int .i64 (precD l d))∧Below w.heap.size w w':=by
 have HI:=Lib.hid (Index_at_spec v l d w h)
 obtain ⟨A,c,rfl,hn,hc,hR⟩:=h
 unfold maxLen at hc
 obtain ⟨q,hq⟩:∃ q,precD l d=q:=⟨_,rfl⟩
 rw [hq]
 unfold idxZ at HI
 unfold precD at hq
 have HR:=Lib.hid hR;clear hR
 cases hi:l.findIdx? (fun y=>y == d) with
 | none =>
  rw [hi] at HI hq
  simp only at HI hq
  subst hq
  clear hi
  go_enter Tryz.func120,Tryz.ntmps120
  go_wp2_with fail
  refine HI.out.mono ?_
  rintro e w1 ⟨rfl,hb1⟩
  have B1:=Lib.hid hb1;clear hb1
  go_wp2_with fail
  go_ret
  exact ⟨rfl,B1.out⟩
 | some k =>
  rw [hi] at HI hq
  simp only at HI hq
  have hk:k<l.length:=(List.findIdx?_eq_some_iff_getElem.1 hi).1
  clear hi
  have hm:(k+l.length-1) % l.length<l.length:=Nat.mod_lt _ (by omega)
  have hq2:l[(k+l.length-1) % l.length]=q:=by
   rw [← hq];simp only [List.getD_eq_getElem?_getD,List.getElem?_eq_getElem hm,Option.getD_some]
  have htm:Int.tmod ((k:Int)+(l.length:Int)-1) (l.length:Int)=((k+l.length-1) % l.length:Nat):=by
   rw [Int.tmod_eq_emod_of_nonneg (by omega),show (k:Int)+(l.length:Int)-1=((k+l.length-1:Nat):Int) by omega]
   exact (Int.natCast_emod _ _).symm
  clear hq
  generalize hM:(k+l.length-1) % l.length=m at *
  have Hq2:=Lib.hid hq2
  clear hq2 hM
  have h0:¬ (k:Int)<0:=by omega
  have g1:IntKind.i64.wrap ((k:Int)+(l.length:Int))=(k:Int)+(l.length:Int):=IntWalk.i64_in _ (by omega)
  have g2:IntKind.i64.wrap ((k:Int)+(l.length:Int)-1)=(k:Int)+(l.length:Int)-1:=IntWalk.i64_in _ (by omega)
  have g3:¬ (l.length:Int)=0:=by omega
  have g4:IntKind.i64.wrap (m:Int)=m:=IntWalk.i64_in _ (by omega)
  have g5:(m:Int)<l.length:=by omega
  have g6:0≤(m:Int):=by omega
  have hne:l.length≠0:=by omega
  have hne':l≠[]:=by intro e;rw [e] at hne;exact hne rfl
  have Hne:=Lib.hid hne
  clear hne
  go_enter Tryz.func120,Tryz.ntmps120
  go_wp2_with fail
  refine HI.out.mono ?_
  rintro e w1 ⟨rfl,hb1⟩
  have B1:=Lib.hid hb1;clear hb1
  obtain ⟨b,o,rfl,hlb,c0⟩:=(HR.out.mono B1.out).int hm
  rw [Hq2.out] at c0
  go_wp2_with fail
  go_ret
  exact ⟨rfl,B1.out⟩

theorem Valid.around_len {p:Pl} (h:Valid p) (n:Int):(aroundD p n).length≤512:=by
 cases hf:findNd p.nodes n with
 | none=>simp [aroundD,hf]
 | some nd =>
  have hm:nd∈p.nodes:=List.mem_of_find?_eq_some hf
  have hid:nd.id=n:=by have:=List.find?_some hf;simpa using this
  subst hid
  rw [(h.around_perm hm).length_eq]
  have h1:=dartL_len p.arcs nd.id
  have hl:=h.lim
  unfold limS at hl
  simp only [Bool.or_eq_false_iff,decide_eq_false_iff_not] at hl
  omega

end Go.Proofs.YtpempeioeiaijaaGreat
namespace Go.Proofs.YtpempeioeiaijaaGreat
open Go.RowKit Go.Sort

def ascL (l:List Int):List Int:=l.mergeSort fun x y=>decide (x≤y)
theorem ascL_perm (l:List Int):(ascL l).Perm l:=List.mergeSort_perm _ _
theorem ascL_len (l:List Int):(ascL l).length=l.length:=(ascL_perm l).length_eq
theorem ascL_sorted (l:List Int):(ascL l).Pairwise (·≤·):=by
 have:=List.pairwise_mergeSort (le:=fun (x y:Int)=>decide (x≤y)) (fun a b c h1 h2=>by simp only [decide_eq_true_eq] at *;omega) (fun a b=>by simp only [Bool.or_eq_true,decide_eq_true_eq];omega) l
 exact this.imp (fun h=>by simpa using h)
theorem ascL_of {l m:List Int} (hp:l.Perm m) (hs:m.Pairwise (· < ·)):ascL l=m:=by
 refine sorted_uniq (lt:=fun a b=>decide (a<b)) ((ascL_perm l).trans hp) ?_ ?_ (fun a _ b _ h1 h2=>by simp only [decide_eq_false_iff_not] at *;omega)
 · exact (ascL_sorted l).imp (fun h=>by simpa using h)
 · exact hs.imp (fun h=>by simp only [decide_eq_false_iff_not];omega)
theorem putRow_heap (w:World) (n:Nat) (blk off:Nat) (d:Array Int) (os:Array Obj):(grow (putRow (Value.int .i64) (Sort.ahead w n) blk off d) os).heap=w.heap.modify blk (onCells (putCells (Value.int .i64) off d))++os:=rfl
theorem putRow_grown (w:World) (n:Nat) (blk off:Nat) (d:Array Int) (os:Array Obj):w.grownBy (grow (putRow (Value.int .i64) (Sort.ahead w n) blk off d) os) (some blk):=by
 refine ⟨rfl,rfl,rfl,?_,fun i hi hne=>?_⟩
 · rw [putRow_heap];simp
 ·
  have hne':blk≠i:=fun e=>hne (by rw [e])
  rw [putRow_heap,Array.getElem?_append_left (by simpa using hi),Array.getElem?_modify,if_neg hne']
set_option maxHeartbeats 1000000 in
theorem SortN_spec (base:Nat) (v:Value) (sl:List Int) (w:World) (hown:Own w base 3 1 inC v sl) (hn:sl.length≤4294967296) :
  Calls Tryz.prog 121 #[v] w (RetSortIn w base v (ascL sl)):=by
 rcases sl with _ | ⟨s0,rest⟩
 ·
  have hv:∃ p cap,v=.slice p 0 cap:=by
   rcases hown.2 with ⟨h,_⟩ | ⟨g,cap,cur,h,_⟩
   · exact ⟨_,_,h⟩
   · exact ⟨_,_,h⟩
  obtain ⟨p,cap,rfl⟩:=hv
  refine Calls.mono (AnyM.slices_Sort_int_none Tryz.sortN p cap w) ?_
  rintro e w' ⟨rfl,rfl⟩
  exact ⟨rfl,by rw [show ascL []=[] by simp [ascL]];exact hown,World.grownBy.refl _ _⟩
 generalize hsl:s0::rest=sl at *
 have hpos:0<sl.length:=by rw [← hsl];simp
 obtain ⟨hlen,hown2⟩:=hown
 rcases hown2 with ⟨_,h0⟩ | ⟨g,cap,cur,rfl,hg,hh,hnc,hcm,hcs,hx⟩
 · omega
 have hcur:∀ j,j<sl.length→cur[j]? = (sl[j]?).map (.int .i64 ·):=fun j hj=>by
  rw [← flat_in,← hx,List.getElem?_take,if_pos (by omega)];simp
 have hH:Holds (Value.int .i64) w g 0 sl.toArray:=fun j hj=>by
  have hj':j<sl.length:=by simpa using hj
  refine ⟨?_,Blk.frozen (t:=3) (cs:=cur) hh _⟩
  rw [cell_of_row w g _ cur 3 (0,0) hh,Nat.zero_add,hcur j hj',getElem!_pos sl.toArray j hj,List.getElem?_eq_getElem hj']
  simp
 refine Calls.mono (AnyM.slices_Sort_int Tryz.sortN g 0 cap sl w hH (Blk.lt hh) (by omega)) ?_
 rintro e w' ⟨rfl,n,os,rfl⟩
 have hl':(ascL sl).length=sl.length:=ascL_len sl
 refine ⟨rfl,?_,putRow_grown w n g 0 _ os⟩
 unfold Own
 rw [hl']
 refine ⟨by rw [flat_in_len,hl'];omega,.inr ⟨g,cap,putCells (Value.int .i64) 0 (ascL sl).toArray cur,rfl,hg,?_,hnc,hcm,by simp [putCells,hcs],?_⟩⟩
 ·
  have hgl:g<w.heap.size:=Blk.lt hh
  show (grow (putRow (Value.int .i64) (Sort.ahead w n) g 0 (ascL sl).toArray) os).heap[g]? = _
  rw [putRow_heap,Array.getElem?_append_left (by simpa using hgl),Array.getElem?_modify,if_pos rfl,hh]
  rfl
 ·
  apply List.ext_getElem?
  intro j
  rw [List.getElem?_take]
  by_cases hj:j<sl.length*1
  ·
   rw [if_pos hj]
   have hjc:j<cur.size:=by rw [hcs];omega
   have hjd:j<(ascL sl).length:=by rw [hl'];omega
   rw [flat_in,List.getElem?_eq_getElem hjd]
   have e1:(putCells (Value.int .i64) 0 (ascL sl).toArray cur).toList[j]? = some (.int .i64 (ascL sl).toArray[j]!):=by
    simp [putCells,hjc,hjd]
   rw [e1,getElem!_pos (ascL sl).toArray j (by simpa using hjd)]
   simp
  · rw [if_neg hj,List.getElem?_eq_none (by rw [flat_in_len,hl'];omega)]
end Go.Proofs.YtpempeioeiaijaaGreat
namespace Go.Proofs.YtpempeioeiaijaaGreat
open Go.RowKit

def cyC (x:List Int×SV):List Value:=[.slice x.2.a x.2.n x.2.c]
theorem cyC_len (x:List Int×SV):(cyC x).length=1:=rfl
theorem cyC_one (x:List Int×SV):∀ u∈cyC x,u.oneCell'=true:=by simp [cyC,Value.oneCell']
theorem elem_cy:Elem Tryz.prog 99 32 1 24:=Elem.mk_ (z:=.slice none 0 0) (by kernel_rfl) (by kernel_rfl) rfl (by omega)
def CysO (w:World) (B:Nat) (v:Value) (L:List (List Int×SV)):Prop :=
 Own w B 32 1 cyC v L∧∀ x∈L,Own w B 3 1 inC (.slice x.2.a x.2.n x.2.c) x.1
def RetCys (w:World) (l:List (List Int)) (z:Int) (e:Ending) (w':World):Prop :=
 ∃ A c L,e=.returned (.tuple #[.slice A l.length c,.int .i64 z])∧Below w.heap.size w w'∧L.map (·.1)=l∧CysO w' w.heap.size (.slice A l.length c) L

theorem mapII_ne {w:World} {gm n:Nat} {f:Int→Int} (h:MapII w gm n f) {g:Nat} {t:TypeId} {cs:Array Value} (hg:Blk w g t cs):g≠gm:=by
 rintro rfl
 obtain ⟨D,h1,-⟩:=h
 obtain ⟨es,clock,h2,-⟩:=h1
 unfold Blk at hg
 rw [hg] at h2
 cases h2
theorem mapII_own {w:World} {gm n:Nat} {f:Int→Int} (h:MapII w gm n f) {base:Nat} {e:TypeId} {size:Nat} {α:Type} {fe:α→List Value} {v:Value} {l:List α} (ho:Own w base e size fe v l):v.ownBlock≠some gm:=by
 rcases ho.2 with ⟨rfl,_⟩ | ⟨g,cap,cur,rfl,_,hh,_⟩
 · simp [Value.ownBlock]
 ·
  intro e'
  exact mapII_ne h (cs:=cur) (g:=g) hh (by simpa [Value.ownBlock] using e')
theorem Own.row_in {w:World} {base:Nat} {A:Option Addr} {n c:Nat} {l:List Int} (h:Own w base 3 1 inC (.slice A n c) l):Row w A (l.flatMap inC):=by
 obtain ⟨A',c',he,_,_,hr⟩:=h.sl
 injection he with e1 e2 e3
 subst e1
 exact hr

def aroundL (p:Pl) (k:Nat):List Int:=(p.nodes.take k).flatMap fun n=>aroundD p n.id
def FolOK (p:Pl) (F:Int→Int) (L:List Int):Prop:=∀ e∈L,F (-e)=nextD p (-e)
theorem aroundL_succ (p:Pl) (k:Nat) (hk:k<p.nodes.length):aroundL p (k+1)=aroundL p k++aroundD p p.nodes[k].id:=by
 unfold aroundL
 rw [List.take_succ_eq_append_getElem hk,List.flatMap_append]
 simp
theorem aroundL_len {p:Pl} (h:Valid p) (k:Nat):(aroundL p k).length≤512*k:=by
 induction k with
 | zero=>simp [aroundL]
 | succ k ih =>
  by_cases hk:k<p.nodes.length
  ·
   rw [aroundL_succ p k hk,List.length_append]
   have:=h.around_len p.nodes[k].id
   omega
  ·
   have:aroundL p (k+1)=aroundL p k:=by
    unfold aroundL
    rw [List.take_of_length_le (by omega),List.take_of_length_le (by omega)]
   rw [this];omega
theorem aroundL_all (p:Pl):aroundL p p.nodes.length=p.nodes.flatMap fun n=>aroundD p n.id:=by
 unfold aroundL;rw [List.take_length]
theorem FolOK.snoc {p:Pl} {F:Int→Int} {L:List Int} (h:FolOK p F L) {d x:Int} (hx:nextD p (-d)=x):FolOK p (fun i=>if i=-d then x else F i) (L++[d]):=by
 intro e he
 by_cases hd:e=d
 · subst hd;simp [hx]
 ·
  have hne:-e≠-d:=by omega
  simp only [List.mem_append,List.mem_singleton,hd,or_false] at he
  simp only [hne,if_false]
  exact h e he
section
variable {p:Pl} (h:Valid p)
include h
theorem Valid.next_around {n:Nd} (hn:n∈p.nodes) {d:Int} (hd:d∈aroundD p n.id):nextD p (-d)=precD (aroundD p n.id) d∧d∈dartsD p:=by
 obtain ⟨h1,h2⟩:=h.dartL_start ((h.around_perm hn).subset hd)
 obtain ⟨n',hn',e,hm,hx⟩:=h.next_eq (neg_dart h1)
 rw [Int.neg_neg] at e hm hx
 exact ⟨by rw [hx,e,h2],h1⟩
theorem Valid.dart_bd {d:Int} (hd:d∈dartsD p):-1073741824≤d∧d≤1073741824:=by
 obtain ⟨a,ha,e⟩:=mem_dartsD.1 hd
 have:=h.id_pos ha
 omega
theorem Valid.asc_all:ascL (aroundL p p.nodes.length)=dartsD p:=by
 rw [aroundL_all]
 exact ascL_of h.all_around h.darts_sorted
theorem Valid.fol_all {F:Int→Int} (hF:FolOK p F (aroundL p p.nodes.length)) {d:Int} (hd:d∈dartsD p):F d=nextD p d:=by
 have h1:-d∈aroundL p p.nodes.length:=by
  rw [aroundL_all]
  exact h.all_around.symm.subset (neg_dart hd)
 have:=hF _ h1
 rwa [Int.neg_neg] at this
theorem Valid.darts_len:(dartsD p).length≤512:=by
 have hl:=h.lim
 unfold limS at hl
 simp only [Bool.or_eq_false_iff,decide_eq_false_iff_not] at hl
 unfold dartsD
 simp only [List.length_append,List.length_reverse,List.length_map]
 omega
theorem Valid.nodes_len:p.nodes.length≤256:=by
 have hl:=h.lim
 unfold limS at hl
 simp only [Bool.or_eq_false_iff,decide_eq_false_iff_not] at hl
 omega
theorem Valid.cyc_k (k:Nat):Cyc (nextD p) (dartsD p) ((dartsD p).take k) (((dartsD p).take k).foldl (cycStep (nextD p) (dartsD p)) []):=by
 have:=cyc_fold (f:=nextD p) (D:=dartsD p) (fun x hx=>(h.next_mem hx).1) (fun x hx y hy=>h.next_inj hx hy) ((dartsD p).take k) [] [] (Cyc.nil _ _) (fun x hx=>List.mem_of_mem_take hx) (by rw [List.nil_append];exact h.darts_sorted.sublist (List.take_sublist _ _))
 rwa [List.nil_append] at this
end
theorem cyc_succ (f:Int→Int) (D:List Int) (k:Nat) (hk:k<D.length):(D.take (k+1)).foldl (cycStep f D) []=cycStep f D ((D.take k).foldl (cycStep f D) []) D[k]:=by
 rw [List.take_succ_eq_append_getElem hk,List.foldl_append]
 rfl
end Go.Proofs.YtpempeioeiaijaaGreat
