import Derived.Deep.Slices
import Derived.Lib.SmallJoins
import Derived.Test.YtialfdomhoojiaaGreatJ20
set_option linter.unusedSimpArgs false
set_option linter.unusedVariables false
set_option maxRecDepth 100000
set_option maxHeartbeats 4000000
namespace Go.Proofs.YtialfdomhoojiaaGreat
open Go.RowKit
theorem aif (v:Value) (l:List Int) (n:Int) (w:World) (h:Ints w v l):Calls Tryz.prog 29 #[v,.int .i64 n] w fun e w'=>e=.returned (.bool (l.any (fun y=>decide (y=n))))/\Below w.heap.size w w':=by
 obtain ⟨A,c,rfl,hn,hc,hR⟩:=h;unfold maxLen at hc;have HR:=avE hR;clear hR;go_enter Tryz.func29,Tryz.ntmps29;go_wp2_with fail;go_loopw [5] (fun u wr=>∃ k:Nat,k<=l.length/\u=.int .i64 k/\Below w.heap.size w wr/\∀ j (hj:j<l.length),j<k->decide (l[j]=n)=false) (fun u _=>l.length-(intOf u).toNat)
 case atStart => exact ⟨0,avK _,rfl,bR w,fun _ _ h=>by omega⟩
 case round =>
  obtain ⟨k,hk,rfl,hb,hno⟩:=hrel;have Hb:=avE hb;have Hno:=avE hno;clear hb hno;by_cases hlt:k<l.length
  case pos =>
   obtain ⟨b,o,rfl,hlb,c0⟩:=(HR.out.mono Hb.out).int hlt;by_cases he:l[k]=n
   ·have hd:(l[k] == n)=true:=by simp [he]
    have hf:=vO l (fun y=>decide (y=n)) k hlt (by simpa using he);have Hf:=avE hf;clear he hf;go_wp2;go_ret;exact ⟨aY Hf.out.symm,Hb.out⟩
   ·have hd:(l[k] == n)=false:=by simpa using he
    have Hd:=avE (show decide (l[k]=n)=false by simpa using he);clear he;go_wp2;go_roundw
    case rel => exact ⟨k+1,by omega,by go_num,Hb.out,all_succ (p:=fun y=>decide (y=n)=false) Hno.out hlt Hd.out⟩
    case measure => simp [intOf];omega
  case neg =>
  have hf:=y7 l (fun y=>decide (y=n)) (fun j hj=>Hno.out j hj Pe);have Hf:=avE hf;clear hf;go_wp2;go_ret;exact ⟨aY Hf.out.symm,Hb.out⟩
open Go.RowKit Go.ChangeShapes Go.WideShapes Go.Deep Go.Joins
instance:Inhabited Pt:=⟨⟨0,0⟩⟩
instance:Inhabited Nd:=⟨⟨0,⟨0,0⟩⟩⟩
instance:Inhabited Ar:=⟨⟨0,0,0,[],0,0⟩⟩
def TB (p:Pt):Prop:=eU p.x/\eU p.y
def acy (n:Nd):Prop:=eU n.id/\TB n.pt
def acz (a:Ar):Prop:=eU a.id/\eU a.fr/\eU a.dst/\eU a.left/\eU a.right/\∀ p∈a.via,TB p
def arL (p:Pl):Prop:=(∀ n∈p.nodes,acy n)/\(∀ a∈p.aj,acz a)/\∀ f∈p.faces,eU f
theorem arM {α:Type} {l:List α} (h:l.length=2):∃ a b,l=[a,b]:=by
 match l,h with
 | [a,b],_=>exact ⟨a,b,rfl⟩
theorem arN {α:Type} {l:List α} (h:l.length=3):∃ a b c,l=[a,b,c]:=by
 match l,h with
 | [a,b,c],_=>exact ⟨a,b,c,rfl⟩
theorem arO {α:Type} {l:List α} (h:l.length=6):∃ a b c d e f,l=[a,b,c,d,e,f]:=by
 match l,h with
 | [a,b,c,d,e,f],_=>exact ⟨a,b,c,d,e,f,rfl⟩
section
variable {H:Type} {enc:TypeId×Value->H} {w:World} {base:Nat} {spare:Nat->Bool} {held:Bool}
theorem XO {P:Program} {α:Type} [Inhabited α] {t e:TypeId} {n:Nat} (f:α->List Value) (Q:α->Prop) (ht:P.underlying t=some (.slice e)) (hc:P.cellsOf e=n) (hn:∀ a,(f a).length=n)
  (hel:∀ m cs x,DataW.trod enc P w base spare held m e cs=some x->∃ a,cs=f a/\Q a) {fuel:Nat} {cs:List Value} {x:DataW H×List MemPlace} (h:DataW.trod enc P w base spare held fuel t cs=some x) :
  ∃ l:List α,(∃ v,cs=[v]/\Sl w v l.length (l.flatMap f))/\∀ a∈l,Q a:=by
 rcases open_slice ht h with ⟨rfl,_⟩ | ⟨a,len,cap,m,k,D,Pl,rfl,hb,hl,hm,hmm,-,hi⟩
 · exact ⟨[],⟨_,rfl,none,0,rfl,awe _,by simp [maxLen],Row.nil⟩,fun _ h=>by cases h⟩
 ·have hlm:len<=m:=by rw [hmm];split<;>omega
  obtain ⟨F,hF⟩:=choose_lt (α:=α) (p:=fun i y=>w.cells? base (a.add (i*n)) n=some (f y)/\Q y) (n:=len) (fun i hil=>by
   obtain ⟨cs',h1,h2⟩:=hi i Pe;obtain ⟨y,rfl,hq⟩:=hel _ _ _ h2;rw [hc] at h1;exact ⟨y,h1,hq⟩)
  have hlen:((List.range len).map F).length=len:=by simp
  refine ⟨(List.range len).map F,⟨_,rfl,some a,cap,by rw [hlen],by rw [hlen];exact hl,hm,?_⟩,fun y hy=>?_⟩
  ·intro hne;have hfl:=flat_length f n hn ((List.range len).map F);rw [hlen] at hfl;have hpos:0<len*n:=by
    rcases Nat.eq_zero_or_pos (len*n) with h0 | h0
    · exact absurd (awi Pe) hne
    · exact h0
   have hn0:0<n:=Nat.pos_of_mul_pos_left hpos;have key:∀ j,j<len*n->w.cell? (a.add j)=(((List.range len).map F).flatMap f)[j]? := fun j hj=>by
    have h1:j / n<len:=Nat.div_lt_of_lt_mul (by rw [Nat.mul_comm];exact hj);have h2:j % n<n:=Nat.mod_lt _ hn0;have h3:=flat_get f n hn ((List.range len).map F) (j / n) (j % n) (by rw [hlen];exact h1) h2;rw [Nat.div_add_mod'] at h3;have h4:=(World.cells?_some (hF (j / n) h1).1).2.2 (j % n) h2;rw [Go.Deep.add_add,Nat.div_add_mod'] at h4;rw [h4,h3];simp
   have h00:=key 0 hpos;obtain ⟨b,o,spot⟩:=a;have hex:∃ v,w.cell? (Addr.add ⟨b,o,spot⟩ 0)=some v:=by
    rw [h00,avG Pe];exact ⟨_,rfl⟩
   obtain ⟨v0,hv0⟩:=hex;have hspot:spot=none:=by simpa [Addr.add] using World.cell?_spot hv0
   subst hspot;refine ⟨b,o,rfl,?_,fun j v hj=>?_⟩
   ·have:=World.block_lt_of_cell? w _ hv0
    simpa [Addr.add] using this
   ·have hjl:j<len*n:=by
     rcases Nat.lt_or_ge j (len*n) with h' | h'
     · exact h'
     · rw [awj Pe] at hj;cases hj
    rw [<- Go.WideShapes.add_plain,key j hjl];exact hj
  ·obtain ⟨i,hi',rfl⟩:=av6.1 hy;exact (hF i (List.mem_range.1 hi')).2
theorem arP {P:Program} {t:TypeId} {f0 f1 f2 f3 f4 f5:Field} {fuel:Nat} {cs:List Value} {x:DataW H×List MemPlace} (ht:P.underlying t=some (.struct #[f0,f1,f2,f3,f4,f5])) (h:DataW.trod enc P w base spare held fuel t cs=some x) :
  ∃ (y0 y1 y2 y3 y4 y5:DataW H×List MemPlace) (n:Nat),cs.length=P.cellsOf t/\DataW.trod enc P w base spare held n f0.type ((cs.drop f0.offset).take (P.cellsOf f0.type))=some y0/\DataW.trod enc P w base spare held n f1.type ((cs.drop f1.offset).take (P.cellsOf f1.type))=some y1/\DataW.trod enc P w base spare held n f2.type ((cs.drop f2.offset).take (P.cellsOf f2.type))=some y2/\DataW.trod enc P w base spare held n f3.type ((cs.drop f3.offset).take (P.cellsOf f3.type))=some y3/\DataW.trod enc P w base spare held n f4.type ((cs.drop f4.offset).take (P.cellsOf f4.type))=some y4/\DataW.trod enc P w base spare held n f5.type ((cs.drop f5.offset).take (P.cellsOf f5.type))=some y5:=by
 obtain ⟨xs,n,_,-,hl,hlen,hf⟩:=DataW.trod_struct ht h
 match xs,hlen with
 | [y0,y1,y2,y3,y4,y5],_=>exact ⟨y0,y1,y2,y3,y4,y5,n,hl,by simpa using hf 0 f0 rfl,by simpa using hf 1 f1 rfl,by simpa using hf 2 f2 rfl,by simpa using hf 3 f3 rfl,by simpa using hf 4 f4 rfl,by simpa using hf 5 f5 rfl⟩
theorem XQ:Tryz.prog.cellsOf 3=1:=by kernel_rfl
theorem acA:Tryz.prog.cellsOf 39=2:=by kernel_rfl
theorem aii:Tryz.prog.cellsOf 45=3:=by kernel_rfl
theorem aij:Tryz.prog.cellsOf 50=6:=by kernel_rfl
theorem arQ:Tryz.prog.cellsOf 26=3:=by kernel_rfl
theorem arR:Tryz.prog.cellsOf 46=1:=by kernel_rfl
theorem G7 {fuel:Nat} {cs:List Value} {x:DataW H×List MemPlace} (h:DataW.trod enc Tryz.prog w base spare held fuel 3 cs=some x):∃ n:Int,cs=dw n/\eU n:=by
 obtain ⟨n,h1,-,h2⟩:=DataW.trod_int Tryz.underlying3 h;exact ⟨n,h1,h2⟩
theorem aik {fuel:Nat} {cs:List Value} {x:DataW H×List MemPlace} (h:DataW.trod enc Tryz.prog w base spare held fuel 39 cs=some x):∃ p:Pt,cs=dU p/\TB p:=by
 obtain ⟨y0,y1,n,-,hl,h0,h1⟩:=trod_struct2 Tryz.underlying39 h;rw [acA] at hl;obtain ⟨c0,c1,rfl⟩:=arM hl;simp only [XQ,List.drop_zero,List.drop_succ_cons,List.take_succ_cons,List.take_zero] at h0 h1;obtain ⟨a,ha,hwa⟩:=G7 h0;obtain ⟨b,hb,hwb⟩:=G7 h1;simp only [dw,List.cons.injEq,and_true] at ha hb;subst ha hb;exact ⟨⟨a,b⟩,rfl,hwa,hwb⟩
theorem arT {fuel:Nat} {cs:List Value} {x:DataW H×List MemPlace} (h:DataW.trod enc Tryz.prog w base spare held fuel 45 cs=some x):∃ p:Nd,cs=yR p/\acy p:=by
 obtain ⟨y0,y1,n,-,hl,h0,h1⟩:=trod_struct2 Tryz.underlying45 h;rw [aii] at hl;obtain ⟨c0,c1,c2,rfl⟩:=arN hl;simp only [XQ,acA,List.drop_zero,List.drop_succ_cons,List.take_succ_cons,List.take_zero] at h0 h1;obtain ⟨a,ha,hwa⟩:=G7 h0;obtain ⟨b,hb,hwb⟩:=aik h1;simp only [dw,dU,List.cons.injEq,and_true] at ha hb;obtain ⟨hb1,hb2⟩:=hb;subst ha hb1 hb2;exact ⟨⟨a,b⟩,rfl,hwa,hwb⟩
theorem arU {fuel:Nat} {cs:List Value} {x:DataW H×List MemPlace} (h:DataW.trod enc Tryz.prog w base spare held fuel 46 cs=some x):∃ l:List Pt,(∃ v,cs=[v]/\dM w v l)/\∀ p∈l,TB p :=
 XO dU TB Tryz.underlying46 acA jS (fun _ _ _ h=>aik h) h
theorem arW {fuel:Nat} {cs:List Value} {x:DataW H×List MemPlace} (h:DataW.trod enc Tryz.prog w base spare held fuel 50 cs=some x):∃ p:Ar×Value,cs=J4 p/\dM w p.2 p.1.via/\acz p.1:=by
 obtain ⟨y0,y1,y2,y3,y4,y5,n,hl,h0,h1,h2,h3,h4,h5⟩:=arP Tryz.underlying50 h;rw [aij] at hl;obtain ⟨c0,c1,c2,c3,c4,c5,rfl⟩:=arO hl;simp only [XQ,arR,List.drop_zero,List.drop_succ_cons,List.take_succ_cons,List.take_zero] at h0 h1 h2 h3 h4 h5;obtain ⟨a0,e0,k0⟩:=G7 h0;obtain ⟨a1,e1,k1⟩:=G7 h1;obtain ⟨a2,e2,k2⟩:=G7 h2;obtain ⟨l,⟨v,e3,hv⟩,k3⟩:=arU h3;obtain ⟨a4,e4,k4⟩:=G7 h4;obtain ⟨a5,e5,k5⟩:=G7 h5;simp only [dw,List.cons.injEq,and_true] at e0 e1 e2 e3 e4 e5;subst e0 e1 e2 e3 e4 e5;exact ⟨(⟨a0,a1,a2,l,a4,a5⟩,c3),rfl,hv,k0,k1,k2,k4,k5,k3⟩
theorem bQ.ail {r:Reach} {b0:Nat} {v:Value} {d:DataW H} {ps:List MemPlace} (hv:Value.okWide Tryz.prog w r b0 26 v) (h:DataW.Trod enc Tryz.prog w base spare held 26 v d ps):∃ p,bQ w v p/\arL p:=by
 obtain ⟨v0,v1,v2,y0,y1,y2,n,rfl,-,-,h0,h1,h2⟩:=open_agg3 Tryz.underlying26 atF arQ hv h;obtain ⟨nl,⟨u0,e0,hn⟩,wn⟩:=XO yR acy Tryz.underlying22 aii YI (fun _ _ _ h=>arT h) h0;obtain ⟨al,⟨u1,e1,ha⟩,wa⟩:=XO J4 (fun x=>dM w x.2 x.1.via/\acz x.1) Tryz.underlying23 aij ajr (fun _ _ _ h=>arW h) h1;obtain ⟨fl,⟨u2,e2,hf⟩,wf⟩:=XO dw eU Tryz.underlying24 XQ jB (fun _ _ _ h=>G7 h) h2;simp only [List.cons.injEq,and_true] at e0 e1 e2;subst e0 e1 e2;refine ⟨⟨nl,al.map (·.1),fl⟩,⟨v0,v1,v2,al,rfl,rfl,hn,⟨ha,fun k hk=>(wa _ (avF hk)).1⟩,hf⟩,wn,fun a ha=>?_,wf⟩;obtain ⟨x,hx,rfl⟩:=av6.1 ha;exact (wa x hx).2
end
structure Facing (g k:Ed):Prop where
 up:k.abp=g.abp
 line:k.line=g.line
 lo:k.lo=g.lo
 hi:k.hi=g.hi
 pos:abq k = !abq g
section
variable {g k:Ed} (h:Facing g k)
include h
end
def sF (l:List Int) (n:Int):List Int:=if l.any (fun y=>decide (y=n)) then l else l.takeWhile (fun y=>decide (y<n))++n::l.dropWhile (fun y=>decide (y<n))
def uG (l:List Int):List Int:=l.foldl sF []
theorem arY {α:Type} {l:List α} {q:α->Bool} {k:Nat} (h:∀ j (hj:j<l.length),j<k->q l[j]=true) (he:k=l.length\/∃ hk:k<l.length,q l[k]=false):l.takeWhile q=l.take k/\l.dropWhile q=l.drop k:=by
 induction l generalizing k with
 | nil=>simp
 | cons a l ih =>
  cases k with
  | zero =>
   rcases he with h0 | ⟨hk,h0⟩
   · simp at h0
   ·simp only [List.getElem_cons_zero] at h0;rw [List.takeWhile_cons,List.dropWhile_cons];simp [h0]
  | succ k =>
   have h0:=h 0 ars Pe;simp only [List.getElem_cons_zero] at h0;rw [List.takeWhile_cons,List.dropWhile_cons];simp only [h0,if_true];rw [List.take_succ_cons,List.drop_succ_cons];obtain ⟨e1,e2⟩:=ih (k:=k) (fun j hj hjk=>by have h1:=h (j+1) (by simpa using hj) Pe;simpa only [List.getElem_cons_succ] using h1) (by
    rcases he with h1 | ⟨hk,h1⟩
    · left;simpa using h1
    · right;exact ⟨by simpa using hk,by simpa only [List.getElem_cons_succ] using h1⟩)
   rw [e1,e2];exact ⟨rfl,rfl⟩
theorem arZ (l m:List Int):uG (l++m)=m.foldl sF (uG l):=by
 unfold uG;rw [List.foldl_append]
theorem ain:∀ w,(Go.sizeOf 3).run Tryz.prog w=.ok 1 w:=fun _=>by kernel_rfl
theorem ar1 (l:List Int) (n:Int):(sF l n).length<=l.length+1:=by
 unfold sF;split
 · omega
 ·rw [avL,avO];have:=congrArg List.length (List.takeWhile_append_dropWhile (p:=fun y=>decide (y<n)) (l:=l))
  rw [avL] at this;omega
def aio (w:World) (l:List Int) (e:Ending) (w':World):Prop :=
 ∃ A c,e=.returned (.slice A l.length c)/\Below w.heap.size w w'/\Ints w' (.slice A l.length c) l
theorem ar2 (v:Value) (l:List Int) (n:Int) (w:World) (h:Ints w v l) (hl:l.length<=1000000):Calls Tryz.prog 91 #[v,.int .i64 n] w (aio w (sF l n)):=by
 have XR:=avE (fun W (hW:Below w.heap.size w W)=>aif v l n W (h.mono hW));obtain ⟨A,c,rfl,hn,hc,hR⟩:=h;have HC:=avE (show Ints w (.slice A l.length c) l from ⟨A,c,rfl,hn,hc,hR⟩);unfold maxLen at hc;have HR:=avE hR;clear hR
 cases hany:l.any (fun y=>decide (y=n))
 case true =>
  have hw:sF l n=l:=by unfold sF;rw [if_pos hany]
  rw [hw];rw [hany] at XR;clear hw hany;go_enter Tryz.func91,Tryz.ntmps91;go_wp2_with fail;refine (XR.out _ (bR w)).mono ?_;rintro e w1 ⟨rfl,hb1⟩;go_wp2;go_ret;exact ⟨A,c,rfl,hb1,HC.out.mono hb1⟩
 have hw:sF l n=l.takeWhile (fun y=>decide (y<n))++n::l.dropWhile (fun y=>decide (y<n)):=by unfold sF;rw [if_neg (by rw [hany];simp)]
 obtain ⟨q,hq⟩:∃ q,sF l n=q:=⟨_,rfl⟩;rw [hq] at hw ⊢;rw [hany] at XR;have Hq:=avE hw;clear hq hw hany;go_enter Tryz.func91,Tryz.ntmps91;go_wp2_with fail;refine (XR.out _ (bR w)).mono ?_;rintro e W0 ⟨rfl,hb0⟩;have HB0:=avE hb0;clear hb0;go_wp2_with fail;go_loopw [5] (fun u wr=>∃ k:Nat,k<=l.length/\u=.int .i64 k/\Below W0.heap.size W0 wr/\∀ j (hj:j<l.length),j<k->decide (l[j]<n)=true) (fun u _=>l.length-(intOf u).toNat)
 case atStart => exact ⟨0,avK _,rfl,bR W0,fun _ _ h=>by omega⟩
 case round =>
  obtain ⟨k,hk,rfl,hb,hno⟩:=hrel;have Hb:=avE hb;have Hno:=avE hno;clear hb hno;have q1:0<=(k:Int):=by omega
  by_cases hgo:∃ hlt:k<l.length,l[k]<n
  case pos =>
   obtain ⟨hlt,hz⟩:=hgo;have q2:(k:Int)<l.length:=by omega
   obtain ⟨b,o,rfl,hlb,c0⟩:=(HR.out.mono (bT HB0.out Hb.out)).int hlt;have Hz:=avE (avW hz);go_wp2;go_roundw
   case rel => exact ⟨k+1,by omega,by go_num,Hb.out,all_succ (p:=fun y=>decide (y<n)=true) Hno.out hlt Hz.out⟩
   case measure => simp [intOf];omega
  case neg =>
  have he:k=l.length\/∃ hk:k<l.length,decide (l[k]<n)=false:=by
   by_cases h1:k<l.length
   ·right;exact ⟨h1,avV fun h2=>hgo ⟨h1,h2⟩⟩
   · left;omega
  obtain ⟨ht,hd⟩:=arY (q:=fun y=>decide (y<n)) (fun j hj hjk=>Hno.out j hj hjk) he;have hins:=Hq.out;rw [ht,hd] at hins;have aip:=avE hins;clear hins hgo ht hd;have hrun1:=YQ Tryz.underlying24 ain A l.length c k hk hn;have hrun2:=Uw Tryz.underlying24 ain A l.length c k hk (k:Int) rfl;have jf:=avE (show Sl w (.slice A k c) (l.take k).length ((l.take k).flatMap dw) from Sl.YR HC.out k hk);have VW:=avE (show Sl w (.slice (vI A c k 1) (l.length-k) (c-k)) (l.drop k).length ((l.drop k).flatMap dw) from Sl.from_ jB HC.out k hk);have htl:(l.take k).length<=1000000:=by rw [awk];omega
  have hdl:(l.drop k).length<=1000000:=by rw [awl];omega
  have oQ:=avE htl;have Dp:=avE hdl;clear htl hdl;have O5:=avE (bT HB0.out Hb.out);have O6:=avE O5.out.size;rcases he with hke | ⟨hkl,hz⟩
  case inl =>
   have q2:¬ (k:Int)<l.length:=by omega
   clear hke;go_upto_region 7 with
    (at_builtin
     refine iZ _ rfl (.tmp 25) (.tmp 28) _ rfl (base:=w.heap.size) jR jB jT rfl (Own.lit _ _ _ _ dw [] _ 0 _ rfl rfl O6.out (dP Pe) rfl rfl) rfl (l2:=l.take k) (jf.out.mono (bA O5.out _)) avr avr (by have:=O6.out;simp;omega) ?_;intro v1 w1 ho1 hg1 yx;rw [List.nil_append] at ho1;have ku:=avE ho1;have B1:=avE (show Below w.heap.size w w1 from bG (bA O5.out _) hg1 (fun g hg=>by have h:=avP hg;have:=O6.out;simp at h;omega));have hz1:w.heap.size<=w1.heap.size:=B1.out.size;clear ho1 hg1 yx)
   refine Ah (w.heap.size) (w1) (.take 0 1 (.take 1 3 (.run 3 4 3 (.call 2 119 (.call 3 127 (.call 7 255 (.take 8 511 (.done)))))))) fun bZ QR aB aH hS=>?_
   iterate 5 refine aC ?_
   refine bK ?_;clear hS;intro K hK ak;go_simp;refine hK.out _ _ (fE Pe ak.out _) (fun hS=>?_);clear hK K ak
   try simp only [pu]
   refine bK ?_;clear hS;intro K hK ak;refine kW (.tmp 30) (.tmp 32) _ rfl (base:=w.heap.size) jR jB jT rfl (Own.alloc (ku.out.keep (bD (bR w1))) _) rfl (l2:=[n]) (Sl.lit (n:=1) (ah.made rfl _ _) rfl (dP Pe)) ave ave arV ?_;intro v2 wr2 ho2 hg2 zL;have hB2:Below w.heap.size w1 wr2:=Below.grown (Below.alloc (Below.drew (Below.refl _ _)) arV _) hg2 arV (fun g hg=>(ku.out.lt g hg).1);have hS:fM (w.heap.size) w1 wr2:=hB2;have HB2:=avE hB2;have iU:=avE ho2;have hz2:w.heap.size<=wr2.heap.size:=avZ hz1 hB2.size;clear ho2 hg2 zL hB2;clear ak;refine hK.out _ _ hS (fun _=>?_);clear hK K
   try simp only [pu]
   refine bK ?_;clear hS;intro K hK ak;refine kW (.tmp 33) (.tmp 36) _ rfl (base:=w.heap.size) jR jB jT rfl iU.out rfl (l2:=l.drop k) (VW.out.mono (B1.out.trans HB2.out)) avg avg hz2 ?_;intro v3 wr3 ho3 hg3 Dq;rw [awm,List.singleton_append,<- aip.out] at ho3;have hS:fM (w.heap.size) w1 wr3:=Below.grown HB2.out hg3 hz2 (fun g hg=>(iU.out.lt g hg).1);obtain ⟨A3,c3,hv3,-,-⟩:=Own.lI ho3;subst hv3;have gY:=avE ho3;clear ho3 hg3 Dq;clear ak;refine hK.out _ _ hS (fun _=>?_);clear hK K
   try simp only [pu]
   refine aC ?_;refine o8 ?_;clear hS aH aB;intro hB;go_wp2;go_ret;exact ⟨A3,c3,rfl,B1.out.trans hB,gY.out.sl⟩
  case inr =>
   have q2:(k:Int)<l.length:=by omega
   obtain ⟨b,o,rfl,hlb,c0⟩:=(HR.out.mono O5.out).int hkl;have q3:¬ l[k]<n:=by simpa using hz
   clear hz;go_upto_region 7 with
    (at_builtin
     refine iZ _ rfl (.tmp 25) (.tmp 28) _ rfl (base:=w.heap.size) jR jB jT rfl (Own.lit _ _ _ _ dw [] _ 0 _ rfl rfl O6.out (dP Pe) rfl rfl) rfl (l2:=l.take k) (jf.out.mono (bA O5.out _)) avr avr (by have:=O6.out;simp;omega) ?_;intro v1 w1 ho1 hg1 yx;rw [List.nil_append] at ho1;have ku:=avE ho1;have B1:=avE (show Below w.heap.size w w1 from bG (bA O5.out _) hg1 (fun g hg=>by have h:=avP hg;have:=O6.out;simp at h;omega));have hz1:w.heap.size<=w1.heap.size:=B1.out.size;clear ho1 hg1 yx)
   refine Ah (w.heap.size) (w1) (.take 0 1 (.take 1 3 (.run 3 4 3 (.call 2 119 (.call 3 127 (.call 7 255 (.take 8 511 (.done)))))))) fun bZ QR aB aH hS=>?_
   iterate 5 refine aC ?_
   refine bK ?_;clear hS;intro K hK ak;go_simp;refine hK.out _ _ (fE Pe ak.out _) (fun hS=>?_);clear hK K ak
   try simp only [pu]
   refine bK ?_;clear hS;intro K hK ak;refine kW (.tmp 30) (.tmp 32) _ rfl (base:=w.heap.size) jR jB jT rfl (Own.alloc (ku.out.keep (bD (bR w1))) _) rfl (l2:=[n]) (Sl.lit (n:=1) (ah.made rfl _ _) rfl (dP Pe)) ave ave arV ?_;intro v2 wr2 ho2 hg2 zL;have hB2:Below w.heap.size w1 wr2:=Below.grown (Below.alloc (Below.drew (Below.refl _ _)) arV _) hg2 arV (fun g hg=>(ku.out.lt g hg).1);have hS:fM (w.heap.size) w1 wr2:=hB2;have HB2:=avE hB2;have iU:=avE ho2;have hz2:w.heap.size<=wr2.heap.size:=avZ hz1 hB2.size;clear ho2 hg2 zL hB2;clear ak;refine hK.out _ _ hS (fun _=>?_);clear hK K
   try simp only [pu]
   refine bK ?_;clear hS;intro K hK ak;refine kW (.tmp 33) (.tmp 36) _ rfl (base:=w.heap.size) jR jB jT rfl iU.out rfl (l2:=l.drop k) (VW.out.mono (B1.out.trans HB2.out)) avg avg hz2 ?_;intro v3 wr3 ho3 hg3 Dq;rw [awm,List.singleton_append,<- aip.out] at ho3;have hS:fM (w.heap.size) w1 wr3:=Below.grown HB2.out hg3 hz2 (fun g hg=>(iU.out.lt g hg).1);obtain ⟨A3,c3,hv3,-,-⟩:=Own.lI ho3;subst hv3;have gY:=avE ho3;clear ho3 hg3 Dq;clear ak;refine hK.out _ _ hS (fun _=>?_);clear hK K
   try simp only [pu]
   refine aC ?_;refine o8 ?_;clear hS aH aB;intro hB;go_wp2;go_ret;exact ⟨A3,c3,rfl,B1.out.trans hB,gY.out.sl⟩
theorem ar4 (v:Value) (l:List Int) (w:World) (h:Ints w v l) (hl:l.length<=100000):Calls Tryz.prog 34 #[v] w (aio w (uG l)):=by
 have HW:=avE (@ar2);obtain ⟨A,c,rfl,hn,hc,hR⟩:=h;unfold maxLen at hc;have HR:=avE hR;clear hR;go_enter Tryz.func34,Tryz.ntmps34;go_wp2_with fail;go_loopw [3,4] (fun s u wr=>∃ (k:Nat) (m:List Int),k<=l.length/\u=.int .i64 k/\Below w.heap.size w wr/\uG (l.take k)=m/\m.length<=k/\Ints wr s m) (fun _ u _=>l.length-(intOf u).toNat)
 case atStart => exact ⟨0,[],avK _,rfl,bA (bR w) _,rfl,awe _,Sl.lit (n:=0) (ah.made rfl _ _) rfl (dP Pe)⟩
 case round =>
  obtain ⟨k,m,hk,rfl,hb,hm,hml,hs⟩:=hrel;have Hb:=avE hb;have Hm:=avE hm;have Hs:=avE hs;obtain ⟨As,cs,rfl,-⟩:=hs;clear hb hm;by_cases hlt:k<l.length
  case neg =>
   have hf:=Hm.out;rw [List.take_of_length_le Pe] at hf;have HF:=avE hf;clear hf;go_wp2;go_ret;rw [HF.out];exact ⟨As,cs,rfl,Hb.out,Hs.out⟩
  obtain ⟨b,o,rfl,hlb,c0⟩:=(HR.out.mono Hb.out).int hlt;have TW:=HW.out (.slice As m.length cs) m l[k] wr Hs.out Pe;have hst:uG (l.take (k+1))=sF m l[k]:=by
   rw [avH hlt,arZ,Hm.out];rfl
  have fU:=avE hst;have xk:=avE TW;have hwl:(sF m l[k]).length<=k+1:=by
   have:=ar1 m l[k]
   omega
  have HWl:=avE hwl;clear TW hst hwl;go_wp2_with fail;refine xk.out.mono ?_;rintro e w1 ⟨A1,c1,rfl,hb1,hs1⟩;have B1:=avE (bT Hb.out hb1);have S1:=avE hs1;clear hb1 hs1;go_wp2;go_roundw
  case rel => exact ⟨k+1,_,by omega,by go_num,B1.out,fU.out,HWl.out,S1.out⟩
  case measure => simp [intOf];omega
theorem ar5 (v u:Value) (l m:List Int) (w:World) (h:Ints w v l) (h':Ints w u m) :
  Calls Tryz.prog 55 #[v,u] w fun e w'=>e=.returned (.bool (decide (l=m)))/\Below w.heap.size w w':=by
 obtain ⟨A,c,rfl,hn,hc,hR⟩:=h;obtain ⟨A',c',rfl,hn',hc',hR'⟩:=h';unfold maxLen at hc hc';by_cases hlen:l.length=m.length
 case neg =>
  have hf:=avE (avV (fun e:l=m=>hlen (congrArg List.length e)));have hl1:((l.length:Int) != (m.length:Int))=true:=by rw [bne_iff_ne];omega
  have hl2:(l.length != m.length)=true:=by rw [bne_iff_ne];omega
  clear hlen;go_enter Tryz.func55,Tryz.ntmps55;go_wp2;go_ret;exact ⟨aY hf.out.symm,bR w⟩
 case pos =>
 have hl1:((l.length:Int) != (m.length:Int))=false:=by simp [hlen]
 have hl2:(l.length != m.length)=false:=by simp [hlen]
 have Hlen:=avE hlen;clear hlen;go_enter Tryz.func55,Tryz.ntmps55;go_wp2_with fail;go_loopw [5] (fun i wr=>∃ k:Nat,k<=l.length/\i=.int .i64 k/\Below w.heap.size w wr/\∀ j (hj:j<l.length) (hj':j<m.length),j<k->l[j]=m[j]) (fun i _=>l.length-(intOf i).toNat)
 case atStart => exact ⟨0,avK _,rfl,bR w,fun j _ _ h=>by omega⟩
 case round =>
  obtain ⟨k,hk,rfl,hb,hno⟩:=hrel;have Hb:=avE hb;have Hno:=avE hno;clear hb hno hl1 hl2;by_cases hlt:k<l.length
  ·have hlt':k<m.length:=by have:=Hlen.out;omega
   obtain ⟨b,o,rfl,hlb,c0⟩:=(hR.mono Hb.out).int hlt;obtain ⟨b',o',rfl,yZ,c0q⟩:=(hR'.mono Hb.out).int hlt';have HR:=avE hR;have HR':=avE hR';clear hR hR';have q1:0<=(k:Int):=by omega
   have q2:(k:Int)<l.length:=by omega
   have q3:(k:Int)<m.length:=by omega
   by_cases he:l[k]=m[k]
   ·have hd:(l[k] != m[k])=false:=by simpa using he
    have He:=avE he;clear he;go_upto_region 6 with fail;refine dH (wr) (.run 9 0 0 (.done)) fun bZ QR aB aH hS=>?_
    iterate 9 refine aC ?_
    refine dB ?_;clear hS aH aB;intro hB;have Bw:Below w.heap.size w wr.drew:=bT Hb.out hB;clear hB;go_wp2;go_roundw
    case rel => exact ⟨k+1,by omega,by go_num,Bw,fun j hj hj' hjk=>if e:j<k then Hno.out j hj hj' e else by
      have:j=k:=by omega
      subst this;exact He.out⟩
    case measure => simp [intOf];omega
   ·have hd:(l[k] != m[k])=true:=by simpa using he
    have He:=avE he;clear he;go_upto_region 6 with fail;refine dH (wr) (.run 9 0 0 (.done)) fun bZ QR aB aH hS=>?_
    iterate 9 refine aC ?_
    refine dB ?_;clear hS aH aB;intro hB;have Bw:Below w.heap.size w wr.drew:=bT Hb.out hB;clear hB;go_wp2;go_ret;exact ⟨aY (avV (adt k hlt hlt' He.out)).symm,Bw⟩
  ·have hf:=avE (avW (ads Hlen.out fun j hj=>Hno.out j hj (by have:=Hlen.out;omega) Pe));go_wp2;go_ret;exact ⟨aY hf.out.symm,Hb.out⟩
end Go.Proofs.YtialfdomhoojiaaGreat
