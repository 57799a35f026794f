import Derived.Test.YtialfdomhoojiaaGreatJ19
import Derived.Test.YtialfdomhoojiaaGreatJ14
import Derived.Test.YtialfdomhoojiaaGreatJ10
import Derived.Test.YtialfdomhoojiaaGreatGE
import Derived.Test.YtialfdomhoojiaaGreatJ09
import Derived.Test.YtialfdomhoojiaaGreatJ13
import Derived.Test.YtialfdomhoojiaaGreatJ21
import Derived.Test.YtialfdomhoojiaaGreatJ12
import Derived.Test.YtialfdomhoojiaaGreatJ22
import Derived.Test.YtialfdomhoojiaaGreatGB
import Derived.Deep.Slices
import Derived.Lib.SmallJoins
import Derived.Test.YtialfdomhoojiaaGreatJ15
set_option linter.unusedSimpArgs false
set_option linter.unusedVariables false
namespace Go.Proofs.YtialfdomhoojiaaGreat
open Go.RowKit
structure pU (w:World) (B:Nat) (v:Value) (L:List AD):Prop where
 own:Own w B 62 4 qQ v L
 out:∀ x∈L,Own w B 3 1 dX (aP x.ov) x.out
 inn:∀ x∈L,Own w B 24 1 kL (aP x.iv) x.inn
 jA:∀ x∈L,∀ c∈x.inn,Own w B 3 1 dX (aP c.2) c.1
 dM:∀ x∈L,Own w B 3 1 dX (aP x.av) x.dM
theorem pU.keep {w w':World} {B:Nat} {v:Value} {L:List AD} (h:pU w B v L) (hb:Below w.heap.size w w'):pU w' B v L :=
 ⟨h.own.keep hb,fun x hx=>(h.out x hx).keep hb,fun x hx=>(h.inn x hx).keep hb,fun x hx c hc=>(h.jA x hx c hc).keep hb,fun x hx=>(h.dM x hx).keep hb⟩
theorem pU.full {w:World} {B:Nat} {v:Value} {L:List AD} (h:pU w B v L):xO w v L :=
 ⟨h.own.sl,fun x hx=>(h.out x hx).sl,fun x hx=>(h.inn x hx).sl,fun x hx c hc=>(h.jA x hx c hc).sl,fun x hx=>(h.dM x hx).sl⟩
theorem Jj.first {w:World} {P:List Pt} {e:Ending} {w':World} (h:Jj w P e w') (hP:0<P.length):∃ b o c,e=.returned (.slice (some ⟨b,o,none⟩) P.length c)/\Below w.heap.size w w'/\w'.cell? ⟨b,o,none⟩=some (.int .i64 (P.getD 0 aQ).x)/\w'.cell? ⟨b,o+1,none⟩=some (.int .i64 (P.getD 0 aQ).y)/\b<w'.heap.size:=by
 obtain ⟨A,c,rfl,hb,ho⟩:=h;obtain ⟨b,o,rfl,hlb,c0,c1⟩:=(ho.row_of).pt hP;simp only [Nat.zero_mul,Nat.add_zero] at c0 c1;have e:P.getD 0 aQ=P[0]:=by simp only [List.getD_eq_getElem?_getD,List.getElem?_eq_getElem hP,Option.getD_some]
 rw [e];exact ⟨b,o,c,rfl,hb,c0,c1,hlb⟩
theorem Own.zL {α:Type} {w:World} {base:Nat} {e:TypeId} {size:Nat} {f:α->List Value} {v:Value} {l:List α} (h:Own w base e size f v l) {B':Nat} {e':TypeId} {s':Nat} {β:Type} {f':β->List Value} {g n c:Nat} {l':List β} (h':Own w B' e' s' f' (.slice (some ⟨g,0,none⟩) n c) l') (hne:e≠e') (j:Nat) (u:Value):Own (w.setCell ⟨g,j,none⟩ u) base e size f v l :=
 Own.far h (fun e8=>Own.apart h h' hne g e8 rfl) u
open Go.RowKit Go.ChangeShapes Go.WideShapes Go.Deep Go.Joins
instance:Inhabited Pt:=⟨⟨0,0⟩⟩
instance:Inhabited Nd:=⟨⟨0,⟨0,0⟩⟩⟩
instance:Inhabited Ar:=⟨⟨0,0,0,[],0,0⟩⟩
def IU (p:Pt):Prop:=cZ p.x/\cZ p.y
def SA (n:Nd):Prop:=cZ n.id/\IU n.pt
def SB (a:Ar):Prop:=cZ a.id/\cZ a.fr/\cZ a.dst/\cZ a.left/\cZ a.right/\∀ p∈a.via,IU p
def ahU (p:Pl):Prop:=(∀ n∈p.nodes,SA n)/\(∀ a∈p.au,SB a)/\∀ f∈p.faces,cZ f
theorem ahV {α:Type} {l:List α} (h:l.length=2):∃ a b,l=[a,b]:=by
 match l,h with
 | [a,b],_=>exact ⟨a,b,rfl⟩
theorem ahW {α:Type} {l:List α} (h:l.length=3):∃ a b c,l=[a,b,c]:=by
 match l,h with
 | [a,b,c],_=>exact ⟨a,b,c,rfl⟩
theorem ahX {α:Type} {l:List α} (h:l.length=6):∃ a b c d e f,l=[a,b,c,d,e,f]:=by
 match l,h with
 | [a,b,c,d,e,f],_=>exact ⟨a,b,c,d,e,f,rfl⟩
section
variable {H:Type} {enc:TypeId×Value->H} {w:World} {base:Nat} {spare:Nat->Bool} {held:Bool}
theorem IV {P:Program} {α:Type} [Inhabited α] {t e:TypeId} {n:Nat} (f:α->List Value) (Q:α->Prop) (ht:P.underlying t=some (.slice e)) (hc:P.cellsOf e=n) (hn:∀ a,(f a).length=n)
  (hel:∀ m cs x,DataW.trod enc P w base spare held m e cs=some x->∃ a,cs=f a/\Q a) {fuel:Nat} {cs:List Value} {x:DataW H×List MemPlace} (h:DataW.trod enc P w base spare held fuel t cs=some x) :
  ∃ l:List α,(∃ v,cs=[v]/\Sl w v l.length (l.flatMap f))/\∀ a∈l,Q a:=by
 rcases open_slice ht h with ⟨rfl,_⟩ | ⟨a,len,cap,m,k,D,Pl,rfl,hb,hl,hm,hmm,-,hi⟩
 · exact ⟨[],⟨_,rfl,none,0,rfl,Nat.le_refl _,by simp [maxLen],Row.nil⟩,fun _ h=>by cases h⟩
 ·have hlm:len<=m:=by rw [hmm];split<;>omega
  obtain ⟨F,hF⟩:=choose_lt (α:=α) (p:=fun i y=>w.cells? base (a.add (i*n)) n=some (f y)/\Q y) (n:=len) (fun i hil=>by
   obtain ⟨cs',h1,h2⟩:=hi i (by omega);obtain ⟨y,rfl,hq⟩:=hel _ _ _ h2;rw [hc] at h1;exact ⟨y,h1,hq⟩)
  have hlen:((List.range len).map F).length=len:=by simp
  refine ⟨(List.range len).map F,⟨_,rfl,some a,cap,by rw [hlen],by rw [hlen];exact hl,hm,?_⟩,fun y hy=>?_⟩
  ·intro hne;have hfl:=flat_length f n hn ((List.range len).map F);rw [hlen] at hfl;have hpos:0<len*n:=by
    rcases Nat.eq_zero_or_pos (len*n) with h0 | h0
    · exact absurd (List.eq_nil_of_length_eq_zero (by omega)) hne
    · exact h0
   have hn0:0<n:=Nat.pos_of_mul_pos_left hpos;have key:∀ j,j<len*n->w.cell? (a.add j)=(((List.range len).map F).flatMap f)[j]? := fun j hj=>by
    have h1:j / n<len:=Nat.div_lt_of_lt_mul (by rw [Nat.mul_comm];exact hj);have h2:j % n<n:=Nat.mod_lt _ hn0;have h3:=flat_get f n hn ((List.range len).map F) (j / n) (j % n) (by rw [hlen];exact h1) h2;rw [Nat.div_add_mod'] at h3;have h4:=(World.cells?_some (hF (j / n) h1).1).2.2 (j % n) h2;rw [Go.Deep.add_add,Nat.div_add_mod'] at h4;rw [h4,h3];simp
   have h00:=key 0 hpos;obtain ⟨b,o,spot⟩:=a;have hex:∃ v,w.cell? (Addr.add ⟨b,o,spot⟩ 0)=some v:=by
    rw [h00,List.getElem?_eq_getElem (by omega)];exact ⟨_,rfl⟩
   obtain ⟨v0,hv0⟩:=hex;have hspot:spot=none:=by simpa [Addr.add] using World.cell?_spot hv0
   subst hspot;refine ⟨b,o,rfl,?_,fun j v hj=>?_⟩
   ·have:=World.block_lt_of_cell? w _ hv0
    simpa [Addr.add] using this
   ·have hjl:j<len*n:=by
     rcases Nat.lt_or_ge j (len*n) with h' | h'
     · exact h'
     · rw [List.getElem?_eq_none (by omega)] at hj;cases hj
    rw [<- Go.WideShapes.add_plain,key j hjl];exact hj
  ·obtain ⟨i,hi',rfl⟩:=List.mem_map.1 hy;exact (hF i (List.mem_range.1 hi')).2
theorem ahY {P:Program} {t:TypeId} {f0 f1 f2 f3 f4 f5:Field} {fuel:Nat} {cs:List Value} {x:DataW H×List MemPlace} (ht:P.underlying t=some (.struct #[f0,f1,f2,f3,f4,f5])) (h:DataW.trod enc P w base spare held fuel t cs=some x) :
  ∃ (y0 y1 y2 y3 y4 y5:DataW H×List MemPlace) (n:Nat),cs.length=P.cellsOf t/\DataW.trod enc P w base spare held n f0.type ((cs.drop f0.offset).take (P.cellsOf f0.type))=some y0/\DataW.trod enc P w base spare held n f1.type ((cs.drop f1.offset).take (P.cellsOf f1.type))=some y1/\DataW.trod enc P w base spare held n f2.type ((cs.drop f2.offset).take (P.cellsOf f2.type))=some y2/\DataW.trod enc P w base spare held n f3.type ((cs.drop f3.offset).take (P.cellsOf f3.type))=some y3/\DataW.trod enc P w base spare held n f4.type ((cs.drop f4.offset).take (P.cellsOf f4.type))=some y4/\DataW.trod enc P w base spare held n f5.type ((cs.drop f5.offset).take (P.cellsOf f5.type))=some y5:=by
 obtain ⟨xs,n,_,-,hl,hlen,hf⟩:=DataW.trod_struct ht h
 match xs,hlen with
 | [y0,y1,y2,y3,y4,y5],_=>exact ⟨y0,y1,y2,y3,y4,y5,n,hl,by simpa using hf 0 f0 rfl,by simpa using hf 1 f1 rfl,by simpa using hf 2 f2 rfl,by simpa using hf 3 f3 rfl,by simpa using hf 4 f4 rfl,by simpa using hf 5 f5 rfl⟩
theorem IW:Tryz.prog.cellsOf 3=1:=by kernel_rfl
theorem SC:Tryz.prog.cellsOf 39=2:=by kernel_rfl
theorem aay:Tryz.prog.cellsOf 45=3:=by kernel_rfl
theorem aaz:Tryz.prog.cellsOf 50=6:=by kernel_rfl
theorem ahZ:Tryz.prog.cellsOf 26=3:=by kernel_rfl
theorem ah0:Tryz.prog.cellsOf 46=1:=by kernel_rfl
theorem vS {fuel:Nat} {cs:List Value} {x:DataW H×List MemPlace} (h:DataW.trod enc Tryz.prog w base spare held fuel 3 cs=some x):∃ n:Int,cs=dX n/\cZ n:=by
 obtain ⟨n,h1,-,h2⟩:=DataW.trod_int Tryz.underlying3 h;exact ⟨n,h1,h2⟩
theorem aaA {fuel:Nat} {cs:List Value} {x:DataW H×List MemPlace} (h:DataW.trod enc Tryz.prog w base spare held fuel 39 cs=some x):∃ p:Pt,cs=dG p/\IU p:=by
 obtain ⟨y0,y1,n,-,hl,h0,h1⟩:=trod_struct2 Tryz.underlying39 h;rw [SC] at hl;obtain ⟨c0,c1,rfl⟩:=ahV hl;simp only [IW,List.drop_zero,List.drop_succ_cons,List.take_succ_cons,List.take_zero] at h0 h1;obtain ⟨a,ha,SE⟩:=vS h0;obtain ⟨b,hb,hwb⟩:=vS h1;simp only [dX,List.cons.injEq,and_true] at ha hb;subst ha hb;exact ⟨⟨a,b⟩,rfl,SE,hwb⟩
theorem ah1 {fuel:Nat} {cs:List Value} {x:DataW H×List MemPlace} (h:DataW.trod enc Tryz.prog w base spare held fuel 45 cs=some x):∃ p:Nd,cs=pY p/\SA p:=by
 obtain ⟨y0,y1,n,-,hl,h0,h1⟩:=trod_struct2 Tryz.underlying45 h;rw [aay] at hl;obtain ⟨c0,c1,c2,rfl⟩:=ahW hl;simp only [IW,SC,List.drop_zero,List.drop_succ_cons,List.take_succ_cons,List.take_zero] at h0 h1;obtain ⟨a,ha,SE⟩:=vS h0;obtain ⟨b,hb,hwb⟩:=aaA h1;simp only [dX,dG,List.cons.injEq,and_true] at ha hb;obtain ⟨hb1,hb2⟩:=hb;subst ha hb1 hb2;exact ⟨⟨a,b⟩,rfl,SE,hwb⟩
theorem ah2 {fuel:Nat} {cs:List Value} {x:DataW H×List MemPlace} (h:DataW.trod enc Tryz.prog w base spare held fuel 46 cs=some x):∃ l:List Pt,(∃ v,cs=[v]/\bU w v l)/\∀ p∈l,IU p :=
 IV dG IU Tryz.underlying46 SC iU (fun _ _ _ h=>aaA h) h
set_option maxRecDepth 100000 in
theorem ah3 {fuel:Nat} {cs:List Value} {x:DataW H×List MemPlace} (h:DataW.trod enc Tryz.prog w base spare held fuel 50 cs=some x):∃ p:Ar×Value,cs=zS p/\bU w p.2 p.1.via/\SB p.1:=by
 obtain ⟨y0,y1,y2,y3,y4,y5,n,hl,h0,h1,h2,h3,h4,h5⟩:=ahY Tryz.underlying50 h;rw [aaz] at hl;obtain ⟨c0,c1,c2,c3,c4,c5,rfl⟩:=ahX hl;simp only [IW,ah0,List.drop_zero,List.drop_succ_cons,List.take_succ_cons,List.take_zero] at h0 h1 h2 h3 h4 h5;obtain ⟨a0,e0,k0⟩:=vS h0;obtain ⟨a1,e1,k1⟩:=vS h1;obtain ⟨a2,e2,k2⟩:=vS h2;obtain ⟨l,⟨v,e3,hv⟩,k3⟩:=ah2 h3;obtain ⟨a4,e4,k4⟩:=vS h4;obtain ⟨a5,e5,k5⟩:=vS h5;simp only [dX,List.cons.injEq,and_true] at e0 e1 e2 e3 e4 e5;subst e0 e1 e2 e3 e4 e5;exact ⟨(⟨a0,a1,a2,l,a4,a5⟩,c3),rfl,hv,k0,k1,k2,k4,k5,k3⟩
set_option maxRecDepth 100000 in
theorem dh.SG {r:Reach} {b0:Nat} {v:Value} {d:DataW H} {ps:List MemPlace} (hv:Value.okWide Tryz.prog w r b0 26 v) (h:DataW.Trod enc Tryz.prog w base spare held 26 v d ps):∃ p,dh w v p/\ahU p:=by
 obtain ⟨v0,v1,v2,y0,y1,y2,n,rfl,-,-,h0,h1,h2⟩:=open_agg3 Tryz.underlying26 (by kernel_rfl) ahZ hv h;obtain ⟨nl,⟨u0,e0,hn⟩,wn⟩:=IV pY SA Tryz.underlying22 aay Nw (fun _ _ _ h=>ah1 h) h0;obtain ⟨al,⟨u1,e1,ha⟩,wa⟩:=IV zS (fun x=>bU w x.2 x.1.via/\SB x.1) Tryz.underlying23 aaz abm (fun _ _ _ h=>ah3 h) h1;obtain ⟨fl,⟨u2,e2,hf⟩,wf⟩:=IV dX cZ Tryz.underlying24 IW qc (fun _ _ _ h=>vS h) h2;simp only [List.cons.injEq,and_true] at e0 e1 e2;subst e0 e1 e2;refine ⟨⟨nl,al.map (·.1),fl⟩,⟨v0,v1,v2,al,rfl,rfl,hn,⟨ha,fun k hk=>(wa _ (List.getElem_mem hk)).1⟩,hf⟩,wn,fun a ha=>?_,wf⟩;obtain ⟨x,hx,rfl⟩:=List.mem_map.1 ha;exact (wa x hx).2
end
open Go.RowKit Go.ChangeShapes Go.WideShapes Go.Deep Go.Joins
instance:Inhabited Cr:=⟨⟨0,0,0⟩⟩
instance:Inhabited Pc:=⟨⟨0,[],0,0⟩⟩
instance:Inhabited EL:=⟨⟨0,[],[]⟩⟩
def ah4 (b:Bx):Prop:=cZ b.x0/\cZ b.y0/\cZ b.x1/\cZ b.y1
section
variable {H:Type} {enc:TypeId×Value->H} {w:World} {base:Nat} {spare:Nat->Bool} {held:Bool}
theorem ah5:Tryz.prog.cellsOf 73=4:=by kernel_rfl
set_option maxRecDepth 100000 in
theorem Bx.SG {r:Reach} {b0:Nat} {v:Value} {d:DataW H} {ps:List MemPlace} (hv:Value.okWide Tryz.prog w r b0 73 v) (h:DataW.Trod enc Tryz.prog w base spare held 73 v d ps):∃ b:Bx,v=Fh b/\ah4 b/\ps=[]:=by
 obtain ⟨v0,v1,v2,v3,y0,y1,y2,y3,n,rfl,-,rfl,h0,h1,h2,h3⟩:=open_agg4 Tryz.underlying73 (by kernel_rfl) ah5 hv h;obtain ⟨a0,e0,x0,k0⟩:=DataW.trod_int Tryz.underlying3 h0;obtain ⟨a1,e1,x1,k1⟩:=DataW.trod_int Tryz.underlying3 h1;obtain ⟨a2,e2,x2,k2⟩:=DataW.trod_int Tryz.underlying3 h2;obtain ⟨a3,e3,x3,k3⟩:=DataW.trod_int Tryz.underlying3 h3;simp only [List.cons.injEq,and_true] at e0 e1 e2 e3;subst e0 e1 e2 e3 x0 x1 x2 x3;exact ⟨⟨a0,a1,a2,a3⟩,rfl,⟨k0,k1,k2,k3⟩,rfl⟩
end
def zM (n lo hi:Int):Bool:=decide (lo<=n) && decide (n<=hi)
theorem ah6 (n lo hi:Int):zM n lo hi=true↔lo<=n/\n<=hi:=by simp [zM]
def SH (p:Pt):Bool:=zM p.x (-1048576) 1048576 && zM p.y (-1048576) 1048576
def ah7 (s:Se):Pt:=⟨s.at_.x+s.cols*s.width,s.at_.y+s.rows*s.height⟩
def SI (s:Se):Bool:=SH s.at_ && (zM s.width 1 65536 && (zM s.height 1 65536 && (zM s.cols 1 16 && zM s.rows 1 16)))
def MS (s:Se):Bool:=SI s && SH (ah7 s)
def aaB (s:Se) (n:Int):Bool:=decide (1<=n) && decide (n<=s.cols*s.rows)
def colS (s:Se) (n:Int):Int:=(n-1).tmod s.cols
def MV (s:Se) (n:Int):Int:=(n-1).tdiv s.cols
structure aaC (s:Se):Prop where
 x:-1048576<=s.at_.x/\s.at_.x<=1048576
 y:-1048576<=s.at_.y/\s.at_.y<=1048576
 w:1<=s.width/\s.width<=65536
 h:1<=s.height/\s.height<=65536
 c:1<=s.cols/\s.cols<=16
 r:1<=s.rows/\s.rows<=16
theorem ah8 {s:Se} (h:SI s=true):aaC s:=by
 unfold SI SH at h;simp only [Bool.and_eq_true,ah6] at h;obtain ⟨⟨h1,h2⟩,h3,h4,h5,h6⟩:=h;exact ⟨h1,h2,h3,h4,h5,h6⟩
theorem ah9 {s:Se} (h:MS s=true):aaC s:=by
 unfold MS at h;rw [Bool.and_eq_true] at h;exact ah8 h.1
structure MW (s:Se) (n:Int):Prop where
 ok:MS s=true
 lo:1<=n
 hi:n<=s.cols*s.rows
theorem MW.of {s:Se} {n:Int} (h1:MS s=true) (h2:aaB s n=true):MW s n:=by
 unfold aaB at h2;simp only [Bool.and_eq_true,decide_eq_true_eq] at h2;exact ⟨h1,h2.1,h2.2⟩
theorem MW.bd {s:Se} {n:Int} (h:MW s n):0<=colS s n/\colS s n<s.cols/\0<=MV s n/\MV s n<s.rows/\n=MV s n*s.cols+colS s n+1:=by
 have hb:=ah9 h.ok;have h1:=h.lo;have h2:=h.hi;have hc:=hb.c;unfold colS MV;rw [Int.tmod_eq_emod_of_nonneg (by omega),Int.tdiv_eq_ediv_of_nonneg (by omega)];have e1:=Int.emod_nonneg (n-1) (show s.cols≠0 by omega);have e2:=Int.emod_lt_of_pos (n-1) (show 0<s.cols by omega);have e3:=Int.mul_ediv_add_emod (n-1) s.cols;have e4:0<=(n-1) / s.cols:=Int.ediv_nonneg (by omega) (by omega);refine ⟨e1,e2,e4,?_,?_⟩
 ·rcases Int.lt_or_le ((n-1) / s.cols) s.rows with h3 | h3
  · exact h3
  ·have:=Int.mul_le_mul_of_nonneg_left h3 (show 0<=s.cols by omega)
   omega
 · rw [Int.mul_comm];omega
end Go.Proofs.YtialfdomhoojiaaGreat
