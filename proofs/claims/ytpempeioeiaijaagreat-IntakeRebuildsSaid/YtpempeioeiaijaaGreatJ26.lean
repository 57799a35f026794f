import Derived.Test.YtpempeioeiaijaaGreatJ25
import Derived.Test.YtpempeioeiaijaaGreatJ14
import Derived.Test.YtpempeioeiaijaaGreatJ04
import Derived.Test.YtpempeioeiaijaaGreatLaySortPt
import Derived.Test.YtpempeioeiaijaaGreatJ24
import Derived.Test.YtpempeioeiaijaaGreatJ05
import Derived.Deep.CutBlock
import Derived.BigRegion
import Derived.Test.YtpempeioeiaijaaGreatJ10
import Derived.Shelf.SlSortCmp.NoneTotal
import Derived.Test.YtpempeioeiaijaaGreatLaySortLn
import Derived.Test.YtpempeioeiaijaaGreatGB
set_option linter.unusedSimpArgs false
set_option linter.unusedVariables false
namespace Go.Proofs.YtpempeioeiaijaaGreat
open Go.RowKit

def RngP (w:World) (b r n:Nat) (g:Pt→Int) (S:Pt→Bool) (cnt:Nat):Prop :=
 ∃ (D:DataW Unit) (left:Lit→Bool),w.ranges Tryz.prog 42 iiR b r n D left cnt∧Maps.IsMap D∧PNf g D∧∀ p l,keyOf Tryz.prog 42 (ptV p)=some l→left l=S p
theorem RngP.owns {w:World} {b r n:Nat} {g:Pt→Int} {S:Pt→Bool} {cnt:Nat} (h:RngP w b r n g S cnt):MapPN w b n g:=by
 obtain ⟨D,left,h1,h2,h3,-⟩:=h
 exact ⟨D,h1.owns,h2,h3⟩
theorem RngP.kept {w w':World} {b r n:Nat} {g:Pt→Int} {S:Pt→Bool} {cnt:Nat} (h:RngP w b r n g S cnt) {row:Option Nat} (hg:w.grownBy w' row) (hb:some b≠row) (hr:some r≠row):RngP w' b r n g S cnt:=by
 obtain ⟨D,left,h1,h2⟩:=h
 exact ⟨D,left,h1.kept hg hb hr,h2⟩
theorem RngP.left_eq {w:World} {b r n:Nat} {g:Pt→Int} {S:Pt→Bool} {cnt:Nat} (h:RngP w b r n g S cnt):w.rangeLeft b r=cnt:=by
 obtain ⟨D,left,h1,h2⟩:=h
 exact h1.left_eq
theorem MapPN.own_ne {w:World} {b n:Nat} {g:Pt→Int} (h:MapPN w b n g) {base:Nat} {e:TypeId} {size:Nat} {α:Type} {f:α→List Value} {v:Value} {l:List α} (ho:Own w base e size f v l):v.ownBlock≠some b:=by
 obtain ⟨D,h1,-⟩:=h
 obtain ⟨es,clock,hb,-⟩:=h1
 rcases ho.2 with ⟨rfl,_⟩ | ⟨g,cap,cur,rfl,_,hh,_⟩
 · simp [Value.ownBlock]
 ·
  intro e'
  have e2:g=b:=by simpa [Value.ownBlock] using e'
  rw [e2,hb] at hh;cases hh
theorem MapPN.blk_ne {w:World} {b n:Nat} {f:Pt→Int} (h:MapPN w b n f) {g:Nat} {t:TypeId} {cs:Array Value} (hg:Blk w g t cs):g≠b:=by
 rintro rfl
 obtain ⟨D,h1,-⟩:=h
 obtain ⟨es,clock,hb,-⟩:=h1
 unfold Blk at hg
 rw [hg] at hb
 cases hb
theorem RngP.own_ne {w:World} {b r n:Nat} {g:Pt→Int} {S:Pt→Bool} {cnt:Nat} (h:RngP w b r n g S cnt) {base:Nat} {e:TypeId} {size:Nat} {α:Type} {f:α→List Value} {v:Value} {l:List α} (ho:Own w base e size f v l):v.ownBlock≠some b∧v.ownBlock≠some r:=by
 obtain ⟨D,left,h1,-⟩:=h
 obtain ⟨es,clock,since,seen,c0,hb,-,-,-,hr,-⟩:=h1
 rcases ho.2 with ⟨rfl,_⟩ | ⟨g,cap,cur,rfl,_,hh,_⟩
 · simp [Value.ownBlock]
 ·
  constructor
  ·
   intro e'
   have e2:g=b:=by simpa [Value.ownBlock] using e'
   rw [e2,hb] at hh;cases hh
  ·
   intro e'
   have e2:g=r:=by simpa [Value.ownBlock] using e'
   rw [e2,hr] at hh;cases hh
set_option maxRecDepth 100000 in
theorem key_str {p:Pt} {l:Lit} (h:keyOf Tryz.prog 42 (ptV p)=some l) {q:Pt} {m:Lit} (h':keyOf Tryz.prog 42 (ptV q)=some m):m.sameKey l=decide (q=p):=by
 by_cases e:q=p
 ·
  subst e
  rw [h] at h'
  injection h' with h'
  subst h'
  rw [WideAt.sameKey_self (keyed_pt.key h)];simp
 · rw [Maps.sameKey_ne (key_ne h' h e)];simp [e]

section
variable (w:World) {ops:Array Oper} {rest:List Oper} {o:Oper} {a:Act} {Q:Exit→Act→World→Prop}
theorem wp_range_pn (hg:o.guard=none) (m:Operand) (hop:o.op=Op.range 52 m) (b n:Nat) (f:Pt→Int) (hm:a.eval m=.map (some b)) (h:MapPN w b n f)
  (hK:∀ w' cnt,RngP w' b w.heap.size n f (fun p=>decide (f p≠0)) cnt→w.grownBy w' none→w'.heap.size=w.heap.size+1→wpList Tryz.prog ops Q rest (a.put o.dst (.pointer (some ⟨w.heap.size,0,none⟩))) w') :
  wpList Tryz.prog ops Q (o::rest) a w:=by
 obtain ⟨D,h1,h2,h3⟩:=h
 exact wpList_range_own w hg m _ hop _ _ keyed_pt Tryz.underlying52 iiR b n D hm h1 fun w' hr hg' hs=>hK w' _ ⟨D,_,hr,h2,h3,fun p l hl=>h3.has p l hl⟩ hg' hs
theorem wp_next_pn (hg:o.guard=none) (it:Operand) (hop:o.op=Op.next it false) (b r n:Nat) (g:Pt→Int) (S:Pt→Bool) (cnt:Nat) (hit:a.eval it=.pointer (some ⟨r,0,none⟩)) (h:RngP w b r n g S cnt)
  (hDone:(∀ p,wfPt p→S p=false)→wpList Tryz.prog ops Q rest (a.put o.dst (.tuple #[.bool false])) w)
  (hMore:∀ (p:Pt) (w':World) (cnt':Nat),wfPt p→S p=true→RngP w' b r n g (fun q=>S q && !decide (q=p)) cnt'→cnt'<cnt→w.grownBy w' (some r)→w'.heap.size=w.heap.size →
   (Instr.entry (.pointer (some ⟨r,0,none⟩))).run Tryz.prog w'=.ok (.tuple #[.agg #[.int .i64 p.x,.int .i64 p.y],.int .i64 (g p)]) w'→wpList Tryz.prog ops Q rest (a.put o.dst (.tuple #[.bool true,.agg #[.int .i64 p.x,.int .i64 p.y],.int .i64 (g p)])) w') :
  wpList Tryz.prog ops Q (o::rest) a w:=by
 obtain ⟨D,left,h1,h2,h3,h4⟩:=h
 refine wpList_next_ranges w hg it hop _ keyed_pt iiR (fun p:Pt=>.agg #[.int .i64 p.x,.int .i64 p.y]) (fun c:Int=>.int .i64 c) (fun key kl hk=>?_) (fun v y hv=>?_) b r n D left cnt hit h1 (fun _ hl=>hDone fun p hp=>?_) ?_
 ·
  obtain ⟨p,rfl,-⟩:=key_inv hk
  exact ⟨p,rfl⟩
 ·
  unfold iiR at hv
  split at hv
  · exact ⟨_,rfl⟩
  · cases hv
 ·
  obtain ⟨l,hk⟩:=key_pt p hp
  rw [← h4 p l hk];exact hl l
 ·
  intro p c kl y w' cnt' hk hlk hy hat hr hlt hgr hsz hen
  have hk':keyOf Tryz.prog 42 (ptV p)=some kl:=hk
  have hwf:wfPt p:=by
   obtain ⟨p',e,hw⟩:=key_inv hk'
   rw [ptV_inj e];exact hw
  have hc:c=g p:=by
   have e1:=h3.at_ p kl hk'
   rw [hat] at e1
   unfold iiR at hy
   simp only [Option.some.injEq] at hy
   rw [← hy] at e1
   simpa [iiD] using e1
  subst hc
  exact hMore p w' cnt' hwf (by rw [← h4 p kl hk'];exact hlk) ⟨D,_,hr,h2,h3,fun q l hl=>by rw [h4 q l hl,key_str hk' hl]⟩ hlt hgr hsz hen
set_option maxRecDepth 100000 in
theorem wp_del_pn (hg:o.guard=none) (m x:Operand) (hop:o.op=Op.call {callee:=Callee.builtin Builtin.delete,args:=#[m,x],argTypes:=#[52,42]}) (b r n:Nat) (g:Pt→Int) (S:Pt→Bool) (cnt:Nat) (hm:a.eval m=.map (some b)) (p:Pt) (hp:wfPt p)
  (hx:a.eval x=.agg #[.int .i64 p.x,.int .i64 p.y]) (h:RngP w b r n g S cnt)
  (hK:∀ w' cnt',RngP w' b r n (fun q=>if q=p then 0 else g q) (fun q=>S q && !decide (q=p)) cnt'→cnt'≤cnt→w.mapTurned w' b→wpList Tryz.prog ops Q rest (a.put o.dst (.tuple #[])) w') :
  wpList Tryz.prog ops Q (o::rest) a w:=by
 obtain ⟨D,left,h1,h2,h3,h4⟩:=h
 obtain ⟨kl,hk⟩:=key_pt p hp
 refine wpList_delete_ranges w hg m x _ _ hop _ keyed_pt Tryz.underlying52 iiR b r n D left cnt hm h1 _ kl hx hk fun w' cnt' hr hle ht=>hK w' cnt' ⟨_,_,hr,h2.del _,⟨fun q l hl=>?_,fun q l hl=>?_⟩,fun q l hl=>?_⟩ hle ht
 ·
  by_cases e:q=p
  ·
   subst e
   rw [hk] at hl
   injection hl with hl
   subst hl
   rw [if_pos rfl,Maps.atKey_del_same]
  · rw [if_neg e,Maps.atKey_del_other (key_ne hl hk e),h3.at_ q l hl]
 ·
  by_cases e:q=p
  ·
   subst e
   rw [hk] at hl
   injection hl with hl
   subst hl
   rw [if_pos rfl,Maps.has_del_same];simp
  · rw [if_neg e,Maps.has_del_other (key_ne hl hk e),h3.has q l hl]
 · rw [h4 q l hl,key_str hk hl]
end
end Go.Proofs.YtpempeioeiaijaaGreat
namespace Go.Proofs.YtpempeioeiaijaaGreat
open Go.RowKit Go.Sort

theorem isAgg_Pt:∀ w,(isAgg 42).run Tryz.prog w=.ok true w:=fun _=>by kernel_rfl
theorem sizeOf_Pt:∀ w,(Go.sizeOf 42).run Tryz.prog w=.ok 2 w:=fun _=>by kernel_rfl
def RetSortPt (w:World) (base:Nat) (v:Value) (sl:List Pt) (e:Ending) (w':World):Prop :=
 e=.returned (.tuple #[])∧∃ sl':List Pt,sl'.Perm sl∧sl'.Pairwise (fun a b=>ltOf (fun x y:Pt=>cmpB x y) b a=false)∧Own w' base 42 2 ptC v sl'∧w.grownBy w' v.ownBlock
theorem SortPt_spec (base:Nat) (v:Value) (sl:List Pt) (w:World) (hown:Own w base 42 2 ptC v sl) (hn:sl.length≤4294967296) :
  Calls Tryz.prog 26 #[v,.func (.func 27) #[] #[]] w (RetSortPt w base v sl):=by
 rcases sl with _ | ⟨s0,rest⟩
 ·
  have hv:∃ p cap,v=.slice p 0 cap:=by
   rcases hown.2 with ⟨h,_⟩ | ⟨g,cap,cur,h,_⟩
   · exact ⟨_,_,h⟩
   · exact ⟨_,_,h⟩
  obtain ⟨p,cap,rfl⟩:=hv
  refine Calls.mono (AnyF.slices_SortFunc_none Tryz.sortPt p cap (.func (.func 27) #[] #[]) w) ?_
  rintro e w' ⟨rfl,rfl⟩
  exact ⟨rfl,[],List.Perm.refl _,List.Pairwise.nil,hown,World.grownBy.refl _ _⟩
 generalize hsl:s0::rest=sl at *
 have hs0:s0∈sl:=by rw [← hsl];simp
 have hpos:0<sl.length:=by rw [← hsl];simp
 obtain ⟨hlen,hown2⟩:=hown
 rcases hown2 with ⟨_,h0⟩ | ⟨g,cap,cur,rfl,hg,hh,hnc,hcm,hcs,hx⟩
 · omega
 haveI hI:Inhabited {s:Pt // s=s}:=⟨⟨s0,rfl⟩⟩
 have hdl:∃ dl:List {s:Pt // s=s},dl.map (·.1)=sl:=⟨sl.attachWith (fun s=>s=s) (fun _ _=>rfl),by simp⟩
 obtain ⟨dl,hdl⟩:=hdl
 have hdn:dl.length=sl.length:=by rw [← hdl];simp
 have hfm:dl.flatMap (fun x=>ptC x.1)=sl.flatMap ptC:=by rw [← hdl,List.flatMap_map]
 have hcur:∀ j,j<sl.length*2→cur[j]? = (sl.flatMap ptC)[j]? := fun j hj=>by
  rw [← hx,List.getElem?_take,if_pos hj];simp
 have eg:∀ args w,(callFunc 27 args).run Tryz.prog w=.ok (.enter 27 args) w:=enters_of Tryz.func27 (by kernel_rfl) rfl
 have hkk:∀ x:{s:Pt // s=s},(ptC x.1).length=2:=fun _=>rfl
 have hcmp:CmpLays Tryz.prog 27 #[] (fun x:{s:Pt // s=s}=>ptC x.1) 2 (fun x y=>(fun x y:Pt=>cmpB x y) x.1 y.1) g 0 dl.toArray.size w:=fun m os dk hdk x y=>by
  have hg':=sort_grown (fun x:{s:Pt // s=s}=>ptC x.1) 2 w g 0 m dk os

  exact (Cmp19_spec x.1 y.1 _).mono fun e w' h=>⟨h.1,belowD_grow h.2⟩
 have hsz:dl.toArray.size*2=sl.length*2:=by simp [hdn]
 have hH:HoldsK (fun x:{s:Pt // s=s}=>ptC x.1) 2 w g 0 dl.toArray:=fun j hj=>by
  rw [size_flatK,hsz] at hj
  refine ⟨?_,Blk.frozen (t:=42) (cs:=cur) hh _⟩
  rw [cell_of_row w g _ cur 42 (0,0) hh,Nat.zero_add,hcur j hj,flatK_list _ 2 hkk _ j (by rw [hsz];exact hj)]
  simp only [id]
  rw [hfm,List.getElem!_eq_getElem?_getD]
  have:j<(sl.flatMap ptC).length:=by rw [hlen];exact hj
  rw [List.getElem?_eq_getElem this];rfl
 have hcon:=AnyQ.slices_SortFunc Tryz.sortPt 2 isAgg_Pt sizeOf_Pt (fun x:{s:Pt // s=s}=>ptC x.1) hkk (fun x=>ptC_one x.1) (fun x y=>(fun x y:Pt=>cmpB x y) x.1 y.1) (swo_cmpB fun x:{s:Pt // s=s}=>x.1) 27 #[] g 0 cap dl.toArray w eg hcmp hH (Blk.lt hh) (by simp;omega)
 have hns:dl.toArray.size=sl.length:=by simp [hdn]
 rw [hns] at hcon
 refine Calls.mono hcon ?_
 rintro e w' ⟨rfl,d',n,os,hp,hs,rfl⟩
 obtain ⟨p1,-,p3⟩:=hp
 have hd':d'.size=sl.length:=by rw [p1,hns]
 have hperm:d'.toList.Perm dl:=by
  have e1:d'.extract 0 sl.length=d':=by rw [← hd'];simp
  have e2:dl.toArray.extract 0 sl.length=dl.toArray:=by rw [← hns];simp
  rw [e1,e2] at p3
  simpa using p3
 have hg':=sort_grown (fun x:{s:Pt // s=s}=>ptC x.1) 2 w g 0 n d' os
 refine ⟨rfl,d'.toList.map (·.1),by rw [← hdl];exact hperm.map _,?_,?_,hg'⟩
 ·
  rw [List.pairwise_map,List.pairwise_iff_getElem]
  intro i j hi hj hij
  have hj':j<d'.size:=by simpa using hj
  have:=hs i j (Nat.zero_le _) hij (by rw [← hd'];exact hj')
  rw [getElem!_pos d' j hj',getElem!_pos d' i (by omega)] at this
  exact this
 ·
  have hl':(d'.toList.map (·.1)).length=sl.length:=by simp [hd']
  unfold Own
  rw [hl']
  have hfd:(d'.toList.map (·.1)).flatMap ptC=d'.toList.flatMap (fun x=>ptC x.1):=by rw [List.flatMap_map]
  have hln:((d'.toList.map (·.1)).flatMap ptC).length=sl.length*2:=by rw [flat_length ptC 2 ptC_len,hl']
  refine ⟨hln,.inr ⟨g,cap,putCells id 0 (flatK (fun x:{s:Pt // s=s}=>ptC x.1) 2 d') cur,rfl,hg,?_,hnc,hcm,by simp [putCells,hcs],?_⟩⟩
  ·
   have hgl:g<w.heap.size:=Blk.lt hh
   rw [sort_heap,Array.getElem?_append_left (by simpa using hgl),Array.getElem?_modify,if_pos rfl,hh]
   rfl
  ·
   apply List.ext_getElem?
   intro j
   rw [List.getElem?_take]
   by_cases hj:j<sl.length*2
   ·
    rw [if_pos hj,hfd]
    have hjc:j<cur.size:=by rw [hcs];have:=Nat.mul_le_mul_right 2 hnc;omega
    have hjd:j<d'.size*2:=by rw [hd'];exact hj
    have e1:(putCells id 0 (flatK (fun x:{s:Pt // s=s}=>ptC x.1) 2 d') cur).toList[j]? = some (flatK (fun x:{s:Pt // s=s}=>ptC x.1) 2 d')[j]! := by
     simp [putCells,hjc,hjd]
    rw [e1,flatK_list _ 2 hkk _ j hjd,List.getElem!_eq_getElem?_getD]
    have:j<(d'.toList.flatMap fun x=>ptC x.1).length:=by rw [← hfd,hln];exact hj
    rw [List.getElem?_eq_getElem this];rfl
   · rw [if_neg hj,List.getElem?_eq_none (by rw [hln];omega)]
end Go.Proofs.YtpempeioeiaijaaGreat
namespace Go.Proofs.YtpempeioeiaijaaGreat
open Go.RowKit Go.Sort

def cnF (l:List Pt) (q:Pt):Int:=(l.count q:Int)
theorem cnF_snoc (l:List Pt) (p:Pt):(fun q=>if q=p then cnF l p+1 else cnF l q)=cnF (l++[p]):=by
 funext q
 unfold cnF
 rw [List.count_append]
 by_cases e:q=p
 · subst e;simp
 ·
  have:([p] : List Pt).count q=0:=List.count_eq_zero.2 (by simpa using e)
  rw [if_neg e,this];simp
theorem cnF_bd (l:List Pt) (q:Pt):0≤cnF l q∧cnF l q≤l.length:=by
 unfold cnF
 have:=List.count_le_length (l:=l) (a:=q)
 omega
theorem cnF_nil:cnF []=fun _=>0:=by funext q;simp [cnF]
theorem bump_eq {l:List Pt} (h:2≤l.length):bump l=l++[l[0]]++[l[l.length-1]]:=by
 unfold bump
 match l,h with
 | x::y::r,_ =>
  have:(x::y::r).getLast? = some ((x::y::r)[(x::y::r).length-1]):=by
   rw [List.getLast?_eq_getElem?,List.getElem?_eq_getElem (by simp)]
  rw [this];rfl
theorem bumps_take {L:List (List Pt)} {k:Nat} (hk:k<L.length) (h:2≤L[k].length):bumps (L.take (k+1))=bumps (L.take k)++L[k]++[L[k][0]]++[L[k][L[k].length-1]]:=by
 rw [List.take_succ_eq_append_getElem hk]
 unfold bumps
 rw [List.flatMap_append,List.flatMap_cons,List.flatMap_nil,List.append_nil,bump_eq h]
 simp only [List.append_assoc]
theorem bumps_take2 {L:List (List Pt)} {k:Nat} {l:List Pt} (hk:L[k]? = some l) (h:2≤l.length):bumps (L.take (k+1))=bumps (L.take k)++l++[l[0]]++[l[l.length-1]]:=by
 obtain ⟨h1,rfl⟩:=List.getElem?_eq_some_iff.1 hk
 exact bumps_take h1 h
theorem bumps_len (L:List (List Pt)) (m:Nat) (h:∀ l∈L,l.length≤m):(bumps L).length≤L.length*(m+2):=by
 unfold bumps
 refine flat_le L bump (m+2) fun l hl=>?_
 unfold bump
 have:=h l hl
 simp only [List.length_append]
 have h1:l.head?.toList.length≤1:=by cases l.head? <;> simp
 have h2:l.getLast?.toList.length≤1:=by cases l.getLast? <;> simp
 omega
def gF (f:Pt→Int) (S:Pt→Bool) (p:Pt):Int:=if S p then f p else if 2≤f p then f p else 0
theorem gF_start (f:Pt→Int):gF f (fun p=>decide (f p≠0))=f:=by
 funext p
 unfold gF
 by_cases h:f p=0
 · simp [h]
 · simp [h]
theorem gF_del {f:Pt→Int} {S:Pt→Bool} {p:Pt} (h:¬ 2≤f p):(fun q=>if q=p then 0 else gF f S q)=gF f (fun q=>S q && !decide (q=p)):=by
 funext q
 unfold gF
 by_cases e:q=p
 · subst e;simp [h]
 · simp [e]
theorem gF_stay {f:Pt→Int} {S:Pt→Bool} {p:Pt} (h:2≤f p):gF f S=gF f (fun q=>S q && !decide (q=p)):=by
 funext q
 unfold gF
 by_cases e:q=p
 · subst e;simp [h]
 · simp [e]
def g2F (f:Pt→Int) (p:Pt):Int:=if 2≤f p then f p else 0
theorem gF_end {f:Pt→Int} {S:Pt→Bool} (hf:∀ p,¬ wfPt p→f p=0) (h:∀ p,wfPt p→S p=false):gF f S=g2F f:=by
 funext q
 unfold gF g2F
 by_cases e:wfPt q
 · rw [h q e];rfl
 · rw [hf q e];simp
theorem nodup_len:∀ {l m:List Pt},l.Nodup→(∀ x∈l,x∈m)→l.length≤m.length
 | [],_,_,_=>Nat.zero_le _
 | x::l,m,hn,hs=>by
  obtain ⟨h1,h2⟩:=List.nodup_cons.1 hn
  have hx:=hs x List.mem_cons_self
  have h3:l.length≤(m.erase x).length:=nodup_len h2 fun y hy=>by
   have hne:y≠x:=fun e=>h1 (e ▸ hy)
   exact (List.mem_erase_of_ne hne).2 (hs y (List.mem_cons_of_mem _ hy))
  rw [List.length_erase_of_mem hx] at h3
  have h4:0<m.length:=List.length_pos_of_mem hx
  rw [List.length_cons]
  omega
end Go.Proofs.YtpempeioeiaijaaGreat
namespace Go.Proofs.YtpempeioeiaijaaGreat
open Go.RowKit Go.Sort

set_option maxRecDepth 100000 in
set_option maxHeartbeats 2000000 in
theorem Points19_bad (v:Value) (xs:List (SV×List Pt)) (w:World) (h:Lns19 w v xs) (hn:xs.length≤1000000) (hs:∀ k (hk:k<xs.length),xs[k].2.length≤1000000) (hz:chkL (xs.map (·.2))≠0) :
  Calls Tryz.prog 12 #[v] w fun e w'=>e=.returned (.tuple #[.slice none 0 0,.int .i64 (chkL (xs.map (·.2)))])∧Below w.heap.size w w':=by
 have HC:=Lib.hid (Check19_spec v xs w h hn hs)
 obtain ⟨⟨A,c,rfl,-⟩,-⟩:=h
 generalize chkL (xs.map (·.2))=z at *
 have hz':(z != 0)=true:=by simpa using hz
 clear hz
 go_enter Tryz.func12,Tryz.ntmps12
 go_wp2_with fail
 refine HC.out.mono ?_
 rintro e w1 ⟨rfl,hb1⟩
 go_wp2_with fail
 go_ret2
 exact ⟨rfl,hb1⟩

def RetPt19 (w:World) (l:List Pt) (e:Ending) (w':World):Prop :=
 ∃ A c,e=.returned (.tuple #[.slice A l.length c,.int .i64 0])∧Below w.heap.size w w'∧Own w' w.heap.size 42 2 ptC (.slice A l.length c) l

set_option maxRecDepth 100000 in
set_option maxHeartbeats 8000000 in
theorem Points19_ok (v:Value) (xs:List (SV×List Pt)) (w:World) (h:Lns19 w v xs) (hg:GoodL (xs.map (·.2))) :
  Calls Tryz.prog 12 #[v] w (RetPt19 w (meetL (xs.map (·.2)))):=by
 have hn:xs.length≤256:=by have:=hg.num;simpa using this
 have hmem:∀ k (hk:k<xs.length),xs[k].2∈xs.map (·.2):=fun k hk=>List.mem_map_of_mem (List.getElem_mem hk)
 have h4:∀ k (hk:k<xs.length),2≤xs[k].2.length∧xs[k].2.length≤4096:=fun k hk=>⟨hg.two _ (hmem k hk),hg.len _ (hmem k hk)⟩
 have hwf:∀ k (hk:k<xs.length),∀ p∈xs[k].2,wfPt p:=fun k hk p hp=>by
  have:=hg.pts _ (hmem k hk) p hp
  unfold ptOk at this
  simp only [Bool.and_eq_true,decide_eq_true_eq] at this
  exact ⟨wfI_of (by omega) (by omega),wfI_of (by omega) (by omega)⟩
 have HC:=Lib.hid (Check19_spec v xs w h (by omega) (fun k hk=>by have:=h4 k hk;omega))
 rw [chkL_good.2 hg] at HC
 have hLk:∀ k (hk:k<xs.length),(xs.map (·.2))[k]? = some xs[k].2:=fun k hk=>by rw [List.getElem?_map,List.getElem?_eq_getElem hk];rfl
 have hLm:∀ k,∀ l∈(xs.map (·.2)).take k,l.length≤4096:=fun k l hl=>hg.len _ (List.mem_of_mem_take hl)
 have hLn:(xs.map (·.2)).length=xs.length:=by simp
 have HG:=Lib.hid hg
 generalize xs.map (·.2)=L at *
 obtain ⟨⟨A,c,rfl,hc1,hc2,hR⟩,hP⟩:=h
 unfold maxLen at hc2
 have HR:=Lib.hid hR;have HP:=Lib.hid hP;have H4:=Lib.hid h4;have HWf:=Lib.hid hwf;have HLk:=Lib.hid hLk;have HLm:=Lib.hid hLm;have HLn:=Lib.hid hLn
 have hmm:=@run_makeMap Tryz.prog
 clear hR hP h4 hwf hLk hLm hmem hg hLn
 go_enter Tryz.func12,Tryz.ntmps12
 go_wp2_with fail
 refine HC.out.mono ?_
 rintro e w1 ⟨rfl,hb1⟩
 go_upto_region 5 with fail
 obtain ⟨gm,hgm⟩:∃ gm,gm=w1.heap.size:=⟨_,rfl⟩
 obtain ⟨W1,hW⟩:∃ W:World,W=w1.alloc (.map #[] 0):=⟨_,rfl⟩
 have HM1:=Lib.hid (show MapPN W1 gm 0 (cnF (bumps (L.take 0))) by
  have e:bumps (L.take 0)=[]:=rfl
  rw [hW,hgm,e,cnF_nil];exact MapPN.made w1)
 have HB1:=Lib.hid (show Below w.heap.size w W1 by rw [hW];exact bA hb1 _)
 have hgl:w.heap.size≤gm:=by rw [hgm];exact hb1.size
 rw [← hW,← hgm]
 clear hW hgm hmm hb1
 go_upto_block 0 with fail
 go_wp2_with fail
 go_loopw [20] (fun u wr=>∃ k n:Nat,k≤xs.length∧n≤k*5000∧u=.int .i64 k∧MapPN wr gm n (cnF (bumps (L.take k)))∧Below w.heap.size w wr) (fun u _=>xs.length-(intOf u).toNat)
 case atStart => exact ⟨0,0,Nat.zero_le _,Nat.zero_le _,rfl,HM1.out,HB1.out⟩
 case round =>
  obtain ⟨k,n,hk,hnk,rfl,mp,hb⟩:=hrel
  obtain ⟨w2,rfl⟩:∃ w2:World,w2=wr:=⟨_,rfl⟩
  have HM:=Lib.hid mp;have Hb:=Lib.hid hb
  clear mp hb HM1 HB1
  by_cases hlt:k<xs.length
  ·
   obtain ⟨b,o,rfl,hlb,c0⟩:=(HR.out.mono Hb.out).ln hlt
   obtain ⟨A1,c1,hv1,hc3,hc4,hR1⟩:=HP.out k hlt
   obtain ⟨hl2,hl4⟩:=H4.out k hlt
   have hwl:=HWf.out k hlt
   have hT:=bumps_take2 (HLk.out k hlt) hl2
   rw [hv1] at c0
   unfold maxLen at hc4
   clear hv1
   generalize xs[k].2=l at *
   have hBl:(bumps (L.take k)).length≤k*4098:=by
    have h9:=bumps_len (L.take k) 4096 (HLm.out k)
    have h8:(L.take k).length≤k:=by rw [List.length_take];omega
    have h7:=Nat.mul_le_mul_right 4098 h8
    omega
   have HT:=Lib.hid hT
   clear hT
   generalize bumps (L.take k)=B0 at *
   have HR1:=Lib.hid hR1;have HWl:=Lib.hid hwl
   clear hR1 hwl
   go_upto_block 2 with fail
   clear c0 hlb
   go_wp2_with fail
   go_loopw [26] (fun u wr=>∃ i m:Nat,i≤l.length∧m≤n+i∧u=.int .i64 i∧MapPN wr gm m (cnF (B0++l.take i))∧Below w.heap.size w wr) (fun u _=>l.length-(intOf u).toNat)
   case atStart => exact ⟨0,n,Nat.zero_le _,by omega,rfl,by rw [List.take_zero,List.append_nil];exact HM.out,Hb.out⟩
   case round =>
    obtain ⟨i,m,hi,hmn,rfl,mp,hb⟩:=hrel
    obtain ⟨w3,rfl⟩:∃ w3:World,w3=wr:=⟨_,rfl⟩
    replace HM:=Lib.hid mp;replace Hb:=Lib.hid hb
    clear mp hb
    by_cases hli:i<l.length
    ·
     obtain ⟨b1,o1,rfl,hlb1,d0,d1⟩:=(HR1.out.mono Hb.out).pt hli
     have hwp:=HWl.out _ (List.getElem_mem hli)
     have hTi:B0++l.take (i+1)=(B0++l.take i)++[l[i]]:=by rw [List.take_succ_eq_append_getElem hli,List.append_assoc]
     have hBi:(B0++l.take i).length≤k*4098+4096:=by
      rw [List.length_append,List.length_take];omega
     generalize l[i]=p at *
     have HTi:=Lib.hid hTi
     clear hTi
     generalize B0++l.take i=C at *
     have hcb:=cnF_bd C p
     go_upto_region 11 with fail
     obtain ⟨W5,hW⟩:∃ W:World,W=w3.alloc (.cells #[.int .i64 p.x,.int .i64 p.y] 42):=⟨_,rfl⟩
     have X8:Blk W5 w3.heap.size 42 #[.int .i64 p.x,.int .i64 p.y]:=by rw [hW];exact Blk.made rfl _ _
     have HA:=Lib.hid (show Below w3.heap.size w3 W5 by rw [hW];exact bA (bR w3) _)
     have hMd:=(HM.out.keep HA.out).kept (row:=none) (gD (gR W5 none)) (by simp)
     have lk0:=hMd.look p hwp
     obtain ⟨st,w6,w7,r1,g1,lk1,r2,hm7,g2⟩:=hMd.bump (by omega) p hwp (cnF C p+1) (by omega)
     have hwr:IntKind.i64.wrap (cnF C p+1)=cnF C p+1:=IntWalk.i64_in _ (by omega)
     rw [cnF_snoc,← HTi.out] at hm7
     have HM7:=Lib.hid hm7
     have HB7:=Lib.hid (show Below w.heap.size w w7 from bG (w:=w) (bD (bT Hb.out HA.out)) g2 (fun q hq=>by have:=Option.some.inj hq;omega))
     rw [← hW]
     clear hW d0 d1 hm7 g1 g2 hMd HM hlb1
     generalize cnF C p=cp at *
     obtain ⟨X8l,X8a,X8b,-,-⟩:=X8.facts2
     go_region
     clear r1 r2 lk0 lk1
     go_wp2_with fail
     go_roundw
     case rel => exact ⟨i+1,m+1,by omega,by omega,by go_num,HM7.out,HB7.out⟩
     case measure => simp [intOf];omega
    ·
     have hil:i=l.length:=by omega
     subst hil
     rw [List.take_length] at HM
     obtain ⟨b1,o1,rfl,hlb1,d0,d1⟩:=(HR1.out.mono Hb.out).pt (k:=0) (by omega)
     simp only [Nat.zero_mul,Nat.add_zero] at d0 d1
     have hwp:=HWl.out _ (List.getElem_mem (show 0<l.length by omega))
     have hwq:=HWl.out _ (List.getElem_mem (show l.length-1<l.length by omega))
     have HF:=Lib.hid (fun W (hW:Below w.heap.size w W)=>(HR1.out.mono hW).pt (k:=l.length-1) (show l.length-1<l.length by omega))
     generalize l[0]=p at *
     generalize l[l.length-1]=q at *
     have hCl:(B0++l).length≤k*4098+4096:=by rw [List.length_append];omega
     generalize B0++l=C at *
     have hcb:=cnF_bd C p
     have hcb2:=cnF_bd (C++[p]) q
     have hln:(C++[p]).length=C.length+1:=by simp
     have hMd:=HM.out.kept (row:=none) (gD (gR w3 none)) (by simp)
     have lk0:=hMd.look p hwp
     obtain ⟨st,w6,w7,r1,g1,lk1,r2,hm7,g2⟩:=hMd.bump (by omega) p hwp (cnF C p+1) (by omega)
     have hwr:IntKind.i64.wrap (cnF C p+1)=cnF C p+1:=IntWalk.i64_in _ (by omega)
     rw [cnF_snoc] at hm7
     have HM7:=Lib.hid hm7
     have HB7:=Lib.hid (show Below w.heap.size w w7 from bG (w:=w) (bD Hb.out) g2 (fun q hq=>by have:=Option.some.inj hq;omega))
     clear hm7 g1 g2 hMd HM
     have hlp:0<l.length:=by omega
     have hcr:cnF (C++[p]) q+1≠0:=by omega
     obtain ⟨cp,hcp⟩:∃ cp,cnF C p=cp:=⟨_,rfl⟩
     rw [hcp] at lk0 r1 lk1 r2 hwr
     clear hcp
     go_upto_region 13 with fail
     go_region
     clear r1 r2 lk0 lk1 d0 d1 hwr hlb1
     have hMd:=HM7.out.kept (row:=none) (gD (gR w7 none)) (by simp)
     have lk0:=hMd.look q hwq
     obtain ⟨st2,w8,w9,r1,g1,lk1,r2,hm9,g2⟩:=hMd.bump (by omega) q hwq (cnF (C++[p]) q+1) hcr
     have hwr:IntKind.i64.wrap (cnF (C++[p]) q+1)=cnF (C++[p]) q+1:=IntWalk.i64_in _ (by omega)
     rw [cnF_snoc,← HT.out] at hm9
     have HM9:=Lib.hid hm9
     have HB9:=Lib.hid (show Below w.heap.size w w9 from bG (w:=w) (bD HB7.out) g2 (fun q hq=>by have:=Option.some.inj hq;omega))
     obtain ⟨b2,o2,hA2,hlb2,f0,f1⟩:=HF.out _ HB7.out
     simp only [Option.some.injEq,Addr.mk.injEq,and_true] at hA2
     obtain ⟨rfl,rfl⟩:=hA2
     obtain ⟨cq,hcq⟩:∃ cq,cnF (C++[p]) q=cq:=⟨_,rfl⟩
     rw [hcq] at lk0 r1 lk1 r2 hwr
     obtain ⟨N,hN⟩:∃ N,l.length-1=N:=⟨_,rfl⟩
     have hN2:((l.length:Int)-1)=N:=by omega
     have hN3:IntKind.i64.wrap ((l.length:Int)-1)=N:=by rw [hN2];exact IntWalk.i64_in _ (by omega)
     have hN4:N<l.length:=by omega
     have hN5:(N:Int)<l.length:=by omega
     have hN6:(0:Int)≤N:=by omega
     rw [hN] at f0 f1
     clear hcq hm9 g1 g2 hMd HM7 hcb hcb2 hN2
     go_upto_region 14 with fail
     go_region
     clear r1 r2 lk0 lk1 f0 f1 hwr hlb2 hN3 hN5 hN6
     go_wp2_with fail
     go_roundw
     case rel => exact ⟨k+1,m+2,by omega,by omega,by go_num,HM9.out,HB9.out⟩
     case measure => simp [intOf];omega
  ·
   have hkn:k=xs.length:=by omega
   subst hkn
   rw [List.take_of_length_le (by rw [HLn.out];exact Nat.le_refl _)] at HM
   have HFw:=Lib.hid (show ∀ p,¬ wfPt p→cnF (bumps L) p=0 from fun p hp=>by
    unfold cnF
    have:(bumps L).count p=0:=List.count_eq_zero.2 fun hm=>by
     obtain ⟨l,hl,hpl⟩:=List.mem_flatten.1 (mem_bumps.1 hm)
     have:=HG.out.pts l hl p hpl
     unfold ptOk at this
     simp only [Bool.and_eq_true,decide_eq_true_eq] at this
     exact hp ⟨wfI_of (by omega) (by omega),wfI_of (by omega) (by omega)⟩
    rw [this];rfl)
   have HFm:=Lib.hid (show ∀ p,g2F (cnF (bumps L)) p≠0↔meets L p=true from fun p=>by
    unfold g2F meets cnF
    rw [decide_eq_true_eq]
    split<;>omega)
   generalize cnF (bumps L)=f at *
   go_wp2_with (first | (at_range;refine wp_range_pn _ rfl _ rfl gm n f rfl HM.out ?_;intro w4 cnt4 hrg4 hg4 hs4) | fail)
   go_frame
   obtain ⟨r,hr⟩:∃ r,r=w2.heap.size:=⟨_,rfl⟩
   have hrl:w.heap.size≤r:=by rw [hr];exact Hb.out.size
   rw [← hr] at hrg4 ⊢
   have HR4:=Lib.hid (show RngP w4 gm r n (gF f (fun p=>decide (f p≠0))) (fun p=>decide (f p≠0)) cnt4 by rw [gF_start];exact hrg4)
   have HB4:=Lib.hid (show Below w.heap.size w w4 from bG (w:=w) Hb.out hg4 (fun q hq=>by cases hq))
   clear hrg4 hg4 hs4 HM hr
   go_loopw [10] (fun _ wr=>∃ (S:Pt→Bool) (cnt:Nat),RngP wr gm r n (gF f S) S cnt∧Below w.heap.size w wr) (fun _ wr=>wr.rangeLeft gm r)
   case atStart => exact ⟨_,_,HR4.out,HB4.out⟩
   case round =>
    obtain ⟨S,cnt,hrg,hb⟩:=hrel
    obtain ⟨w5,rfl⟩:∃ w5:World,w5=wr:=⟨_,rfl⟩
    replace Hb:=Lib.hid hb
    have HRg:=Lib.hid hrg
    clear hb hrg HR4 HB4
    go_wp2_with (first | (at_next;refine wp_next_pn _ rfl _ rfl gm r n _ _ _ rfl HRg.out ?_ ?_) | fail)
    ·
     intro hl0
     have HM2:=Lib.hid (show MapPN w5 gm n (g2F f) by rw [← gF_end HFw.out hl0];exact HRg.out.owns)
     clear hl0 HRg
     go_wp2_with (first | (at_range;refine wp_range_pn _ rfl _ rfl gm n _ rfl HM2.out ?_;intro w6 cnt6 hrg6 hg6 hs6) | fail)
     go_frame
     obtain ⟨r2,hr2⟩:∃ r2,r2=w5.heap.size:=⟨_,rfl⟩
     have hrl2:w.heap.size≤r2:=by rw [hr2];exact Hb.out.size
     rw [← hr2] at hrg6 ⊢
     have HR6:=Lib.hid hrg6
     have HB6:=Lib.hid (show Below w.heap.size w w6 from bG (w:=w) Hb.out hg6 (fun q hq=>by cases hq))
     clear hrg6 hg6 hs6 HM2 hr2
     have HGz:=Lib.hid (show ∀ p,¬ wfPt p→g2F f p=0 from fun p hp=>by unfold g2F;rw [HFw.out p hp];rfl)
     generalize g2F f=g at *
     go_loopw [2] (fun u wr=>∃ (S:Pt→Bool) (cnt:Nat) (l:List Pt),Own wr w.heap.size 42 2 ptC u l∧RngP wr gm r2 n g S cnt∧Below w.heap.size w wr∧l.Nodup∧(∀ p,wfPt p→(p∈l↔g p≠0∧S p=false))∧(∀ p∈l,wfPt p)∧∀ p,S p=true→g p≠0) (fun _ wr=>wr.rangeLeft gm r2)
     case atStart => exact ⟨_,_,[],Own.nil _ _ _ _ _,HR6.out,HB6.out,List.Pairwise.nil,fun p _=>⟨fun h=>(by cases h),fun h=>(by have h1:=h.1;have h2:=h.2;simp [h1] at h2)⟩,fun p h=>(by cases h),fun p h=>(by simpa using h)⟩
     case round =>
      obtain ⟨S,cnt,l,ho,hrg,hb,hnd,hml,hwl,hsg⟩:=hrel
      obtain ⟨w7,rfl⟩:∃ w7:World,w7=wr:=⟨_,rfl⟩
      replace Hb:=Lib.hid hb
      have HRg:=Lib.hid hrg;have HO:=Lib.hid ho;have HNd:=Lib.hid hnd;have HMl:=Lib.hid hml;have HWl:=Lib.hid hwl;have HSg:=Lib.hid hsg
      clear hb hrg HR6 HB6 ho hnd hml hwl hsg
      have hln:l.length≤1048576:=by
       have h1:=nodup_len HNd.out (m:=L.flatten) (fun x hx=>meets_mem ((HFm.out x).1 ((HMl.out x (HWl.out x hx)).1 hx).1))
       have h3:L.flatten.length≤L.length*4096:=by
        have:=flat_le L id 4096 (fun l hl=>HG.out.len l hl)
        simpa [List.flatMap_id] using this
       have h4:=HG.out.num
       omega
      go_wp2_with (first | (at_next;refine wp_next_pn _ rfl _ rfl gm r2 n _ _ _ rfl HRg.out ?_ ?_) | fail)
      ·
       intro hl0
       have HFin:=Lib.hid (show ∀ p,p∈l↔meets L p=true from fun p=>by
        rw [← HFm.out p]
        by_cases hw:wfPt p
        ·
         rw [HMl.out p hw]
         exact ⟨fun h=>h.1,fun h=>⟨h,hl0 p hw⟩⟩
        · exact ⟨fun h=>absurd (HWl.out p h) hw,fun h=>absurd (HGz.out p hw) h⟩)
       clear hl0
       go_wp2_with fail
       refine (SortPt_spec w.heap.size _ l _ HO.out (by omega)).mono ?_
       rintro e w9 ⟨rfl,sl,hp,hs,ho9,hg9⟩
       have hsl:sl=meetL L:=meetL_eq (hp.nodup_iff.2 HNd.out) (fun p=>by rw [hp.mem_iff];exact HFin.out p) (hs.imp fun h=>by rw [ltOf_cmpB (fun x:Pt=>x)] at h;exact h)
       subst hsl
       have HB9:=Lib.hid (show Below w.heap.size w w9 from bG (w:=w) Hb.out hg9 (fun q hq=>(HO.out.lt q hq).1))
       have HO9:=Lib.hid ho9
       clear hp hs hg9 ho9
       go_wp2_with fail
       obtain ⟨A9,c9,hv9,-⟩:=Own.shape HO9.out
       subst hv9
       go_ret2
       exact ⟨A9,c9,rfl,HB9.out,HO9.out⟩
      ·
       intro p w8 cnt8 hwp hsp hrg8 hlt8 hg8 hs8 hen
       have HR8:=Lib.hid hrg8
       obtain ⟨hne1,hne2⟩:=HRg.out.own_ne HO.out
       have HO8:=Lib.hid (HO.out.grown hg8 (fun q hq e=>hne2 (by rw [hq,← Option.some.inj e])))
       have HB8:=Lib.hid (show Below w.heap.size w w8 from bG (w:=w) Hb.out hg8 (fun q hq=>by have:=Option.some.inj hq;omega))
       have hgp:=HSg.out p hsp
       have hpl:p∉l:=fun h=>by have:=((HMl.out p hwp).1 h).2;rw [hsp] at this;cases this
       have hb8:=HB8.out.size
       generalize g p=gp at *
       clear hne1 hne2 hrg8 hg8 hs8
       go_wp2_with
        (at_builtin
         refine wpList_appl _ rfl (.tmp 74) (.tmp 76) _ rfl (base:=w.heap.size) elem_pt ptC_len ptC_one rfl ((HO8.out.alloc _).alloc _) rfl (l2:=[p]) (Sl.lit (n:=1) (Blk.made (by simp) _ _) rfl (le_maxLen (by omega))) (by simp only [List.length_cons,List.length_nil];omega) (by simp only [List.length_cons,List.length_nil];omega) (by simp;omega) ?_
         intro v1 w1 ho1 hg1 hat1
         have HO1:=Lib.hid ho1
         have HR1:=Lib.hid (((HR8.out.kept (World.grownBy_alloc _ _ none) (by simp) (by simp)).kept (World.grownBy_alloc _ _ none) (by simp) (by simp)).kept hg1 (fun e=>(HR8.out.own_ne HO8.out).1 e.symm) (fun e=>(HR8.out.own_ne HO8.out).2 e.symm))
         have HB1:=Lib.hid (show Below w.heap.size w w1 from bG (w:=w) (bA (bA HB8.out _) _) hg1 (fun q hq=>(HO8.out.lt q hq).1))
         clear ho1 hg1 hat1)
       go_roundw
       case rel => exact ⟨_,cnt8,l++[p],HO1.out,HR1.out,HB1.out,List.nodup_append.2 ⟨HNd.out,List.nodup_cons.2 ⟨by simp,List.Pairwise.nil⟩,fun a ha b hb e=>hpl (by rw [List.mem_singleton] at hb;rw [← hb,← e];exact ha)⟩,fun q hq=>by
         rw [List.mem_append,List.mem_singleton,HMl.out q hq]
         by_cases e:q=p
         · subst e;simp [HSg.out q hsp]
         · simp [e],fun q hq=>by
         rcases List.mem_append.1 hq with h | h
         · exact HWl.out q h
         · rw [List.mem_singleton.1 h];exact hwp,fun q hq=>HSg.out q (by simp only [Bool.and_eq_true] at hq;exact hq.1)⟩
       case measure => rw [HR1.out.left_eq,HRg.out.left_eq];exact hlt8
    ·
     intro p w6 cnt6 hwp hsp hrg6 hlt6 hg6 hs6 hen
     have HR6:=Lib.hid hrg6
     have HB6:=Lib.hid (show Below w.heap.size w w6 from bG (w:=w) Hb.out hg6 (fun q hq=>by have:=Option.some.inj hq;omega))
     have hgv:gF f S p=f p:=by unfold gF;rw [hsp];rfl
     rw [hgv] at hen ⊢
     clear hgv hrg6 hg6 hs6 hsp
     by_cases h2:2≤f p
     ·
      have HE:=Lib.hid (gF_stay (S:=S) h2)
      generalize f p=fp at *
      go_wp2_with fail
      go_roundw
      case rel => exact ⟨_,cnt6,by rw [← HE.out];exact HR6.out.kept (World.grownBy_alloc _ _ none) (by simp) (by simp),bA HB6.out _⟩
      case measure => rw [(HR6.out.kept (World.grownBy_alloc _ _ none) (by simp) (by simp)).left_eq,HRg.out.left_eq];exact hlt6
     ·
      have HE:=Lib.hid (gF_del (S:=S) h2)
      generalize f p=fp at *
      go_wp2_with (first | (at_delete;refine wp_del_pn _ rfl (.tmp 66) (.tmp 67) rfl gm r n _ _ _ rfl p hwp rfl (HR6.out.kept (World.grownBy_alloc _ _ none) (by simp) (by simp)) ?_;intro w7 cnt7 hrg7 hle7 ht7;go_frame) | fail)
      have HR7:=Lib.hid hrg7
      have HB7:=Lib.hid (show Below w.heap.size w w7 from bG (w:=w) (bA HB6.out _) ht7.grown (fun q hq=>by have:=Option.some.inj hq;omega))
      clear hrg7 ht7
      go_roundw
      case rel => exact ⟨_,cnt7,by
       have h9:=HR7.out
       rw [HE.out] at h9
       have e9:(fun q=>(S q && !decide (q=p)) && !decide (q=p))=fun q=>S q && !decide (q=p):=by
        funext q;cases S q<;>cases decide (q=p)<;>rfl
       rw [e9] at h9
       exact h9,HB7.out⟩
      case measure => rw [HR7.out.left_eq,HRg.out.left_eq];omega
end Go.Proofs.YtpempeioeiaijaaGreat
namespace Go.Proofs.YtpempeioeiaijaaGreat
open Go.RowKit Go.Sort

theorem ltOf_cmpL {α:Type} (f:α→List Pt) (x y:α):ltOf (fun x y=>cmpL (f x) (f y)) x y=lexL (f x) (f y):=by
 unfold ltOf cmpL
 cases h1:lexL (f x) (f y)<;>cases h2:lexL (f y) (f x)<;>simp [h1,h2]
theorem swo_cmpL {α:Type} (f:α→List Pt):SWO (ltOf (fun x y:α=>cmpL (f x) (f y))) where
 irrefl x:=by rw [ltOf_cmpL];exact lexL_irr _
 trans x y z h1 h2:=by rw [ltOf_cmpL] at *;exact lexL_trans h1 h2
 ntrans x y z h1 h2:=by rw [ltOf_cmpL] at *;exact lexL_le_trans h2 h1
theorem llC_len (x:SV×List Pt):(llC x).length=1:=rfl
theorem flat_ll0 (l:List (SV×List Pt)):l.flatMap llC=l.map fun x=>svV x.1:=by
 induction l with
 | nil=>rfl
 | cons a l ih=>rw [List.flatMap_cons,ih];rfl
theorem flat_ll (l:List (SV×List Pt)) (j:Nat):(l.flatMap llC)[j]? = (l[j]?).map (fun x=>svV x.1):=by rw [flat_ll0,List.getElem?_map]
theorem flat_ll_len (l:List (SV×List Pt)):(l.flatMap llC).length=l.length:=by rw [flat_ll0,List.length_map]
def LnKey (w0:World) (x:SV×List Pt):Prop:=Pts w0 (svV x.1) x.2∧x.2.length≤1000000000
def RetSortLn (w:World) (base:Nat) (v:Value) (sl:List (SV×List Pt)) (e:Ending) (w':World):Prop :=
 e=.returned (.tuple #[])∧∃ sl':List (SV×List Pt),sl'.Perm sl∧sl'.Pairwise (fun a b=>lexL b.2 a.2=false)∧Own w' base 25 1 llC v sl'∧w.grownBy w' v.ownBlock
set_option maxHeartbeats 1000000 in
theorem SortLn_spec (w0:World) (base:Nat) (v:Value) (sl:List (SV×List Pt)) (w:World) (hown:Own w base 25 1 llC v sl) (hb0:Below w0.heap.size w0 w) (hbase:w0.heap.size≤base) (hok:∀ x∈sl,LnKey w0 x) (hn:sl.length≤4294967296) :
  Calls Tryz.prog 65 #[v,.func (.func 66) #[] #[]] w (RetSortLn w base v sl):=by
 rcases sl with _ | ⟨s0,rest⟩
 ·
  have hv:∃ p cap,v=.slice p 0 cap:=by
   rcases hown.2 with ⟨h,_⟩ | ⟨g,cap,cur,h,_⟩
   · exact ⟨_,_,h⟩
   · exact ⟨_,_,h⟩
  obtain ⟨p,cap,rfl⟩:=hv
  refine Calls.mono (AnyF.slices_SortFunc_none {Tryz.sortLn with} p cap (.func (.func 66) #[] #[]) w) ?_
  rintro e w' ⟨rfl,rfl⟩
  exact ⟨rfl,[],List.Perm.refl _,List.Pairwise.nil,hown,World.grownBy.refl _ _⟩
 generalize hsl:s0::rest=sl at *
 have hs0:s0∈sl:=by rw [← hsl];simp
 have hpos:0<sl.length:=by rw [← hsl];simp
 obtain ⟨hlen,hown2⟩:=hown
 rcases hown2 with ⟨_,h0⟩ | ⟨g,cap,cur,rfl,hg,hh,hnc,hcm,hcs,hx⟩
 · omega
 haveI hI:Inhabited ({x:SV×List Pt // LnKey w0 x}):=⟨⟨s0,hok s0 hs0⟩⟩
 have hdl:∃ dl:List ({x:SV×List Pt // LnKey w0 x}),dl.map (·.1)=sl:=⟨sl.attachWith (fun s=>LnKey w0 s) hok,by simp;exact List.attach_map_subtype_val sl⟩
 obtain ⟨dl,hdl⟩:=hdl
 have hdn:dl.length=sl.length:=by have:=congrArg List.length hdl;simpa using this
 have hcur:∀ j,j<sl.length→cur[j]? = (sl[j]?).map (fun x=>svV x.1):=fun j hj=>by
  rw [← flat_ll,← hx,List.getElem?_take,if_pos (by omega)];simp
 let enc:{x:SV×List Pt // LnKey w0 x}→Value:=fun x=>svV x.1.1
 have eg:∀ args w,(callFunc 66 args).run Tryz.prog w=.ok (.enter 66 args) w:=enters_of Tryz.func66 (by kernel_rfl) rfl
 have hcmp:CmpLays1 Tryz.prog 66 #[] enc (fun x y=>cmpL x.1.2 y.1.2) g 0 dl.toArray.size w:=fun m os dk hdk x y=>by
  have hg':=sortW_grown enc w g 0 m dk os
  have hb9:Below w0.heap.size w0 _:=bG hb0 hg' (fun q hq=>by have:=Option.some.inj hq;omega)
  exact (CmpLn_spec x.1 y.1 _ (x.2.1.mono hb9) (y.2.1.mono hb9) x.2.2 y.2.2).mono fun e w' h=>⟨h.1,belowD_grow h.2⟩
 have hget:∀ j,j<dl.length→sl[j]? = some (dl.toArray[j]!).1:=fun j hj=>by
  have e1:dl.toArray[j]! = dl[j]:=by rw [getElem!_pos dl.toArray j (by simpa using hj)];simp
  rw [e1]
  have:sl[j]? = (dl.map (·.1))[j]? := by rw [hdl]
  rw [this,List.getElem?_map,List.getElem?_eq_getElem hj];rfl
 have hH:Holds enc w g 0 dl.toArray:=fun j hj=>by
  have hj':j<dl.length:=by simpa using hj
  refine ⟨?_,Blk.frozen (t:=25) (cs:=cur) hh _⟩
  rw [cell_of_row w g _ cur 25 (0,0) hh,Nat.zero_add,hcur j (by omega),hget j hj']
  rfl
 have hcon:=Any.slices_SortFunc Tryz.sortLn enc (fun _=>rfl) (fun x y=>cmpL x.1.2 y.1.2) (swo_cmpL fun x:{x:SV×List Pt // LnKey w0 x}=>x.1.2) 66 #[] g 0 cap dl.toArray w eg hcmp hH (Blk.lt hh) (by simp;omega)
 have hns:dl.toArray.size=sl.length:=by simp [hdn]
 rw [hns] at hcon
 refine Calls.mono hcon ?_
 rintro e w' ⟨rfl,d',n,os,hp,hs,rfl⟩
 obtain ⟨p1,-,p3⟩:=hp
 have hd':d'.size=sl.length:=by rw [p1,hns]
 have hperm:d'.toList.Perm dl:=by
  have e1:d'.extract 0 sl.length=d':=by rw [← hd'];simp
  have e2:dl.toArray.extract 0 sl.length=dl.toArray:=by rw [← hns];simp
  rw [e1,e2] at p3
  simpa using p3
 have hperm2:(d'.toList.map (·.1)).Perm sl:=by
  have h1:(d'.toList.map (·.1)).Perm (dl.map (·.1)):=hperm.map _
  exact h1.trans (List.Perm.of_eq hdl)
 have hsorted:(d'.toList.map (·.1)).Pairwise (fun a b=>lexL b.2 a.2=false):=by
  rw [List.pairwise_map,List.pairwise_iff_getElem]
  intro i j hi hj hij
  have hj':j<d'.size:=by simpa using hj
  have:=hs i j (Nat.zero_le _) hij (by rw [← hd'];exact hj')
  rw [ltOf_cmpL,getElem!_pos d' j hj',getElem!_pos d' i (by omega)] at this
  simpa using this
 refine ⟨rfl,_,hperm2,hsorted,?_,sortW_grown enc w g 0 n d' os⟩
 have hl':(d'.toList.map (·.1)).length=sl.length:=by simp [hd']
 unfold Own
 rw [hl']
 refine ⟨by rw [flat_ll_len,hl'];omega,.inr ⟨g,cap,putCells enc 0 d' cur,rfl,hg,?_,hnc,hcm,by simp [putCells,hcs],?_⟩⟩
 ·
  have hgl:g<w.heap.size:=Blk.lt hh
  rw [sortW_heap,Array.getElem?_append_left (by simpa using hgl),Array.getElem?_modify,if_pos rfl,hh]
  rfl
 ·
  apply List.ext_getElem?
  intro j
  rw [List.getElem?_take]
  by_cases hj:j<sl.length*1
  ·
   rw [if_pos hj]
   have hjc:j<cur.size:=by rw [hcs];omega
   have hjd:j<d'.size:=by rw [hd'];omega
   rw [flat_ll,List.getElem?_map]
   have e1:(putCells enc 0 d' cur).toList[j]? = some (enc d'[j]!):=by
    simp [putCells,hjc,hjd]
   rw [e1,getElem!_pos d' j hjd,Array.getElem?_toList,Array.getElem?_eq_getElem hjd]
   rfl
  · rw [if_neg hj,List.getElem?_eq_none (by rw [flat_ll_len,hl'];omega)]
end Go.Proofs.YtpempeioeiaijaaGreat
namespace Go.Proofs.YtpempeioeiaijaaGreat
open Go.RowKit Go.Sort

theorem elem_ln:Elem Tryz.prog 22 25 1 24:=Elem.mk_ (z:=.slice none 0 0) (by kernel_rfl) (by kernel_rfl) rfl (by omega)
theorem llC_one (x:SV×List Pt):∀ u∈llC x,u.oneCell'=true:=by simp [llC,svV,Value.oneCell']
def RetDv19 (w:World) (L:List (List Pt)) (M:Pt→Bool) (e:Ending) (w':World):Prop :=
 ∃ A c ys,e=.returned (.slice A ys.length c)∧Below w.heap.size w w'∧Own w' w.heap.size 25 1 llC (.slice A ys.length c) ys∧(∀ y∈ys,Pts w (svV y.1) y.2)∧ys.map (·.2)=srtL (L.flatMap (cutL M))
theorem take_step {l:List Pt} {s i:Nat} (hs:s≤i) (hi:i<l.length):(l.drop s).take (i-s)++[l[i]]=(l.drop s).take (i+1-s):=by
 rw [show i+1-s=(i-s)+1 by omega]
 have h:i-s<(l.drop s).length:=by rw [List.length_drop];omega
 rw [List.take_succ_eq_append_getElem h]
 congr 2
 rw [List.getElem_drop]
 congr 1
 omega
theorem take_one {l:List Pt} {i:Nat} (hi:i<l.length):(l.drop i).take (i+1-i)=[l[i]]:=by
 rw [show i+1-i=1 by omega,drop_get l hi];rfl
theorem cutF_hit {M:Pt→Bool} {l:List Pt} {s i:Nat} (hs:s≤i) (hi:i<l.length) (hM:M l[i]=true):cutF M ((l.drop s).take (i-s)) (l.drop i)=(l.drop s).take (i+1-s)::cutF M ((l.drop i).take (i+1-i)) (l.drop (i+1)):=by
 rw [take_one hi,← take_step hs hi,drop_get l hi,cutF,if_pos hM]
theorem cutF_miss {M:Pt→Bool} {l:List Pt} {s i:Nat} (hs:s≤i) (hi:i<l.length) (hM:M l[i]=false):cutF M ((l.drop s).take (i-s)) (l.drop i)=cutF M ((l.drop s).take (i+1-s)) (l.drop (i+1)):=by
 rw [← take_step hs hi,drop_get l hi,cutF,if_neg (by rw [hM];simp)]
theorem cutF_begin (M:Pt→Bool) {l:List Pt} (hi:0<l.length):cutF M ((l.drop 0).take (1-0)) (l.drop 1)=cutL M l:=by
 match l,hi with
 | x::r,_=>rfl

set_option maxRecDepth 100000 in
set_option maxHeartbeats 8000000 in
theorem Divide19_spec (v:Value) (xs:List (SV×List Pt)) (gm n:Nat) (f:Pt→Int) (w:World) (h:Lns19 w v xs) (hg:GoodL (xs.map (·.2))) (hM:MapPN w gm n f) :
  Calls Tryz.prog 35 #[v,.map (some gm)] w (RetDv19 w (xs.map (·.2)) (fun p=>decide (f p≠0))):=by
 have hn:xs.length≤256:=by have:=hg.num;simpa using this
 have hmem:∀ k (hk:k<xs.length),xs[k].2∈xs.map (·.2):=fun k hk=>List.mem_map_of_mem (List.getElem_mem hk)
 have h4:∀ k (hk:k<xs.length),2≤xs[k].2.length∧xs[k].2.length≤4096:=fun k hk=>⟨hg.two _ (hmem k hk),hg.len _ (hmem k hk)⟩
 have hwf:∀ k (hk:k<xs.length),∀ p∈xs[k].2,wfPt p:=fun k hk p hp=>by
  have:=hg.pts _ (hmem k hk) p hp
  unfold ptOk at this
  simp only [Bool.and_eq_true,decide_eq_true_eq] at this
  exact ⟨wfI_of (by omega) (by omega),wfI_of (by omega) (by omega)⟩
 have hLk:∀ k (hk:k<xs.length),(xs.map (·.2)).take (k+1)=(xs.map (·.2)).take k++[xs[k].2]:=fun k hk=>by
  rw [List.take_succ_eq_append_getElem (by simpa using hk)];simp
 have hLn:(xs.map (·.2)).length=xs.length:=by simp
 obtain ⟨M,hMd⟩:∃ M:Pt→Bool,M=fun p=>decide (f p≠0):=⟨_,rfl⟩
 rw [← hMd]
 have HMd:=Lib.hid (fun p=>congrFun hMd p)
 generalize xs.map (·.2)=L at *
 obtain ⟨⟨A,c,rfl,hc1,hc2,hR⟩,hP⟩:=h
 unfold maxLen at hc2
 have HR:=Lib.hid hR;have HP:=Lib.hid hP;have H4:=Lib.hid h4;have HWf:=Lib.hid hwf;have HLk:=Lib.hid hLk;have HLn:=Lib.hid hLn;have HM:=Lib.hid hM;have HG:=Lib.hid hg
 clear hR hP h4 hwf hLk hmem hLn hM hMd hg
 go_enter Tryz.func35,Tryz.ntmps35
 go_upto_block 0 with fail
 go_wp2_with fail
 go_loopw [4,13] (fun z u wr=>∃ (k:Nat) (ys:List (SV×List Pt)),k≤xs.length∧u=.int .i64 k∧Own wr w.heap.size 25 1 llC z ys∧Below w.heap.size w wr∧(∀ y∈ys,Pts w (svV y.1) y.2)∧ys.map (·.2)=(L.take k).flatMap (cutL M)∧ys.length≤k*4096) (fun _ u _=>xs.length-(intOf u).toNat)
 case atStart => exact ⟨0,[],Nat.zero_le _,rfl,Own.nil _ _ _ _ _,bR w,fun y h=>(by cases h),rfl,Nat.le_refl _⟩
 case round =>
  obtain ⟨k,ys,hk,rfl,ho,hb,hrd,hys,hyl⟩:=hrel
  obtain ⟨w2,rfl⟩:∃ w2:World,w2=wr:=⟨_,rfl⟩
  have HO:=Lib.hid ho;have Hb:=Lib.hid hb;have HRd:=Lib.hid hrd;have HYs:=Lib.hid hys
  clear ho hb hrd hys
  by_cases hlt:k<xs.length
  ·
   obtain ⟨b,o,rfl,hlb,c0⟩:=(HR.out.mono Hb.out).ln hlt
   have hPk:=HP.out k hlt
   obtain ⟨A1,c1,hv1,hc3,hc4,hR1⟩:=hPk
   obtain ⟨hl2,hl4⟩:=H4.out k hlt
   have hwl:=HWf.out k hlt
   have hT:=HLk.out k hlt
   rw [hv1] at c0
   have HSl:=Lib.hid (show Sl w (.slice A1 xs[k].2.length c1) xs[k].2.length (xs[k].2.flatMap ptC) from ⟨A1,c1,rfl,hc3,hc4,hR1⟩)
   unfold maxLen at hc4
   clear hv1
   generalize xs[k].2=l at *
   have HT:=Lib.hid (show (L.take (k+1)).flatMap (cutL M)=ys.map (·.2)++cutL M l by rw [hT,List.flatMap_append,HYs.out];simp)
   have HR1:=Lib.hid hR1;have HWl:=Lib.hid hwl
   clear hR1 hwl hT
   go_upto_block 2 with fail
   clear c0 hlb
   go_wp2_with fail
   go_loopw [4,7,8] (fun z t u wr=>∃ (i s:Nat) (zs:List (SV×List Pt)) (Q:List (List Pt)),i≤l.length∧s≤i∧1≤i∧u=.int .i64 i∧t=.int .i64 s∧Own wr w.heap.size 25 1 llC z zs∧Below w.heap.size w wr∧(∀ y∈zs,Pts w (svV y.1) y.2)∧zs.map (·.2)=ys.map (·.2)++Q∧Q++cutF M ((l.drop s).take (i-s)) (l.drop i)=cutL M l∧zs.length≤k*4096+i) (fun _ _ u _=>l.length-(intOf u).toNat)
   case atStart => exact ⟨1,0,ys,[],by omega,by omega,Nat.le_refl _,rfl,rfl,HO.out,Hb.out,HRd.out,by simp,by rw [List.nil_append];exact cutF_begin M (by omega),by omega⟩
   case round =>
    obtain ⟨i,s,zs,Q,hi,hsi,hi1,rfl,rfl,ho,hb,hrd,hzs,hQ,hzl⟩:=hrel
    obtain ⟨w3,rfl⟩:∃ w3:World,w3=wr:=⟨_,rfl⟩
    replace HO:=Lib.hid ho;replace Hb:=Lib.hid hb;replace HRd:=Lib.hid hrd;have HZs:=Lib.hid hzs;have HQ:=Lib.hid hQ
    clear ho hb hrd hzs hQ
    by_cases hli:i<l.length
    ·
     have hfp:=HMd.out l[i]
     have hwp:=HWl.out _ (List.getElem_mem hli)
     obtain ⟨b1,o1,rfl,hlb1,d0,d1⟩:=(HR1.out.mono Hb.out).pt hli
     cases hMi:M l[i]
     ·
      have HQ2:=Lib.hid (show Q++cutF M ((l.drop s).take (i+1-s)) (l.drop (i+1))=cutL M l by rw [← cutF_miss hsi hli hMi];exact HQ.out)
      rw [hMi] at hfp
      clear hMi
      generalize l[i]=p at *
      have hlk:=(HM.out.keep Hb.out).look_ok p hwp
      rw [← hfp] at hlk
      clear hfp
      go_wp2_with fail
      go_roundw
      case rel => exact ⟨i+1,s,zs,Q,by omega,by omega,by omega,by go_num,rfl,HO.out,Hb.out,HRd.out,HZs.out,HQ2.out,by omega⟩
      case measure => simp [intOf];omega
     ·
      have HQ2:=Lib.hid (show (Q++[(l.drop s).take (i+1-s)])++cutF M ((l.drop i).take (i+1-i)) (l.drop (i+1))=cutL M l by rw [List.append_assoc,List.singleton_append,← cutF_hit hsi hli hMi];exact HQ.out)
      rw [hMi] at hfp
      clear hMi
      generalize l[i]=p at *
      have hlk:=(HM.out.keep Hb.out).look_ok p hwp
      rw [← hfp] at hlk
      clear hfp
      have hmid:=Sl.mid_ ptC_len HSl.out s (i+1) (by omega) (by omega)
      have hpl:((l.drop s).take (i+1-s)).length=i+1-s:=by rw [List.length_take,List.length_drop];omega
      obtain ⟨Ac,hAc⟩:∃ Ac,cutA (some ⟨b1,o1,none⟩) c1 s 2=Ac:=⟨_,rfl⟩
      have hcut:=fun W=>run_both (P:=Tryz.prog) Tryz.underlying25 (e:=42) (size:=2) (fun _=>by kernel_rfl) (some ⟨b1,o1,none⟩) l.length c1 s (i+1) (by omega) (by omega) hc3 (s:Int) ((i:Int)+1) rfl (by omega) W
      rw [hAc] at hmid hcut
      obtain ⟨pc,hpc⟩:∃ pc,(l.drop s).take (i+1-s)=pc:=⟨_,rfl⟩
      rw [hpc] at hmid hpl HQ2
      obtain ⟨N1,hN1⟩:∃ N1,i+1-s=N1:=⟨_,rfl⟩
      obtain ⟨C1,hC1⟩:∃ C1,c1-s=C1:=⟨_,rfl⟩
      rw [hN1,hC1] at hcut hmid
      rw [hN1] at hpl
      have HMid:=Lib.hid (show Pts w (svV ⟨Ac,N1,C1⟩) pc from hmid)
      have hwr:IntKind.i64.wrap ((i:Int)+1)=(i:Int)+1:=IntWalk.i64_in _ (by omega)
      have hb3:=Hb.out.size
      clear hmid hpc hN1 hC1 hAc
      go_wp2_with
       (at_builtin
        refine wpList_appl _ rfl (.tmp 33) (.tmp 39) _ rfl (base:=w.heap.size) elem_ln llC_len llC_one rfl (HO.out.alloc _) rfl (l2:=[((⟨Ac,N1,C1⟩:SV),pc)]) (Sl.lit (n:=1) (Blk.made (by simp) _ _) rfl (le_maxLen (by omega))) (by simp only [List.length_cons,List.length_nil];omega) (by simp only [List.length_cons,List.length_nil];omega) (by simp;omega) ?_
        intro v1 w1 ho1 hg1 hat1
        have HO1:=Lib.hid ho1
        have HB1:=Lib.hid (show Below w.heap.size w w1 from bG (w:=w) (bA Hb.out _) hg1 (fun q hq=>(HO.out.lt q hq).1))
        clear ho1 hg1 hat1)
      go_roundw
      case rel => exact ⟨i+1,i,_,Q++[pc],by omega,by omega,by omega,by go_num,rfl,HO1.out,HB1.out,fun y hy=>by
        rcases List.mem_append.1 hy with h | h
        · exact HRd.out y h
        · rw [List.mem_singleton.1 h];exact HMid.out,by rw [List.map_append,HZs.out,List.append_assoc];rfl,HQ2.out,by simp only [List.length_append,List.length_cons,List.length_nil];omega⟩
      case measure => simp [intOf];omega
    ·
     have hil:i=l.length:=by omega
     subst hil
     have HQ2:=Lib.hid (show Q=cutL M l by
      have h9:=HQ.out
      rw [List.drop_length] at h9
      simpa [cutF] using h9)
     go_wp2_with fail
     go_roundw
     case rel => exact ⟨k+1,zs,by omega,by go_num,HO.out,Hb.out,HRd.out,by rw [HT.out,HZs.out,HQ2.out],by omega⟩
     case measure => simp [intOf];omega
  ·
   have hkn:k=xs.length:=by omega
   subst hkn
   have hB9:=HYs.out
   rw [List.take_of_length_le (by rw [HLn.out];exact Nat.le_refl _)] at hB9
   have HYs9:=Lib.hid hB9
   have hok:∀ y∈ys,LnKey w y:=fun y hy=>⟨HRd.out y hy,by
    have h1:y.2∈L.flatMap (cutL M):=by rw [← HYs9.out];exact List.mem_map_of_mem hy
    obtain ⟨l,hl,hq⟩:=List.mem_flatMap.1 h1
    have h2:=HG.out.two l hl
    have h3:=HG.out.len l hl
    obtain ⟨x,r,rfl,-⟩:=two_split h2
    have h5:=(cutF_infix M r [x] y.2 hq).length_le
    simp only [List.singleton_append] at h5
    omega⟩
   clear hB9 HYs
   go_wp2_with fail
   refine (SortLn_spec w w.heap.size _ ys _ HO.out Hb.out (Nat.le_refl _) hok (by omega)).mono ?_
   rintro e w9 ⟨rfl,sl,hp,hs,ho9,hg9⟩
   have HFin:=Lib.hid (show sl.map (·.2)=srtL (L.flatMap (cutL M)) from srtL_eq ((hp.map (·.2)).trans (List.Perm.of_eq HYs9.out)) (by rw [List.pairwise_map];exact hs))
   have HRd9:=Lib.hid (show ∀ y∈sl,Pts w (svV y.1) y.2 from fun y hy=>HRd.out y (hp.mem_iff.1 hy))
   have HB9:=Lib.hid (show Below w.heap.size w w9 from bG (w:=w) Hb.out hg9 (fun q hq=>(HO.out.lt q hq).1))
   have HO9:=Lib.hid ho9
   clear hp hs hg9 ho9 hok
   go_wp2_with fail
   obtain ⟨A9,c9,hv9,-⟩:=Own.shape HO9.out
   subst hv9
   go_ret
   exact ⟨A9,c9,sl,rfl,HB9.out,HO9.out,HRd9.out,HFin.out⟩
end Go.Proofs.YtpempeioeiaijaaGreat
