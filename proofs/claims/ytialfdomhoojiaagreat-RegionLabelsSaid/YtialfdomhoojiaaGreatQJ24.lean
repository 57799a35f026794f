import Derived.Test.YtialfdomhoojiaaGreatQJ06
import Derived.Deep.Slices
import Derived.Lib.SmallJoins
set_option linter.unusedSimpArgs false
set_option linter.unusedVariables false
namespace Go.Proofs.YtialfdomhoojiaaGreat
open Go.RowKit
def Zm (n:Int):Prop:=-1152921504606846976<=n/\n<=1152921504606846976
set_option maxHeartbeats 1000000 in
theorem atx (x y:Int) (w:World) (h:Zm x) (hy:y≠0):Calls Tryz.prog 252 #[.int .i64 x,.int .i64 y] w fun e w'=>e=.returned (.int .i64 0)/\w=w':=by
 have k1:(y == 0)=false:=by simpa using hy
 have k2:(x == -9223372036854775808)=false:=by rw [beq_eq_false_iff_ne];unfold Zm at h;omega
 clear h hy;go_enter Tryz.func252,Tryz.ntmps252;go_wp2;go_ret;exact ⟨rfl,rfl⟩
theorem aty {a b:Int} (h:Zm a) (hb:b≠0):Zm (a.tdiv b)/\Zm (a.tmod b):=by
 have h1:(a.tdiv b).natAbs<=a.natAbs:=by rw [Int.natAbs_tdiv];exact Nat.div_le_self _ _
 have h2:(a.tmod b).natAbs<=a.natAbs:=by rw [Int.natAbs_tmod];exact Nat.mod_le _ _
 unfold Zm at *;omega
structure Cr where
 pos:Int
 arc:Int
 out:Int
instance:DecidableEq Cr:=fun a b =>
 if h:a.pos=b.pos/\a.arc=b.arc/\a.out=b.out then isTrue (by cases a;cases b;simp_all) else isFalse (by rintro rfl;simp at h)
structure Pc where
 arc:Int
 path:List Pt
 enter:Int
 leave:Int
structure Prt where
 ayb:Int
 pieces:List Pc
 nodes:List Nd
section
variable {w w':World} {v:Value}
end
section
variable {w:World} {A:Option Addr}
end
structure Ed where
 side:Int
 ada:Bool
 line:Int
 lo:Int
 hi:Int
def adb (g:Ed):Bool:=decide (g.side=1) || decide (g.side=2)
def ajy (g:Ed) (p:Pt):Int:=if g.ada then p.x else p.y
def ajB (g:Ed) (p:Pt):Int:=if adb g then KN (ajy g p) g.line else KN g.line (ajy g p)
open Go.RowKit Go.ChangeShapes Go.WideShapes Go.Deep Go.Joins
instance:Inhabited Pt:=⟨⟨0,0⟩⟩
instance:Inhabited Nd:=⟨⟨0,⟨0,0⟩⟩⟩
instance:Inhabited Ar:=⟨⟨0,0,0,[],0,0⟩⟩
def zh (p:Pt):Prop:=En p.x/\En p.y
def ade (n:Nd):Prop:=En n.id/\zh n.pt
def ajz (a:Ar):Prop:=En a.id/\En a.fr/\En a.dst/\En a.left/\En a.right/\∀ p∈a.via,zh p
def atz (p:Pl):Prop:=(∀ n∈p.nodes,ade n)/\(∀ a∈p.AP,ajz a)/\∀ f∈p.faces,En f
theorem au0 {α:Type} {l:List α} (h:l.length=2):∃ a b,l=[a,b]:=by
 match l,h with
 | [a,b],_=>exact ⟨a,b,rfl⟩
theorem au1 {α:Type} {l:List α} (h:l.length=3):∃ a b c,l=[a,b,c]:=by
 match l,h with
 | [a,b,c],_=>exact ⟨a,b,c,rfl⟩
theorem au2 {α:Type} {l:List α} (h:l.length=6):∃ a b c d e f,l=[a,b,c,d,e,f]:=by
 match l,h with
 | [a,b,c,d,e,f],_=>exact ⟨a,b,c,d,e,f,rfl⟩
section
variable {H:Type} {enc:TypeId×Value->H} {w:World} {base:Nat} {spare:Nat->Bool} {held:Bool}
theorem ak0 {P:Program} {α:Type} [Inhabited α] {t e:TypeId} {n:Nat} (f:α->List Value) (Q:α->Prop) (ht:P.underlying t=some (.slice e)) (hc:P.cellsOf e=n) (hn:∀ a,(f a).length=n)
  (hel:∀ m cs x,DataW.trod enc P w base spare held m e cs=some x->∃ a,cs=f a/\Q a) {fuel:Nat} {cs:List Value} {x:DataW H×List MemPlace} (h:DataW.trod enc P w base spare held fuel t cs=some x) :
  ∃ l:List α,(∃ v,cs=[v]/\Sl w v l.length (l.flatMap f))/\∀ a∈l,Q a:=by
 rcases open_slice ht h with ⟨rfl,_⟩ | ⟨a,len,cap,m,k,D,Pl,rfl,hb,hl,hm,hmm,-,hi⟩
 · exact ⟨[],⟨_,rfl,none,0,rfl,Dc _,by simp [maxLen],Row.nil⟩,fun _ h=>by cases h⟩
 ·have hlm:len<=m:=by rw [hmm];split<;>omega
  obtain ⟨F,hF⟩:=choose_lt (α:=α) (p:=fun i y=>w.cells? base (a.add (i*n)) n=some (f y)/\Q y) (n:=len) (fun i hil=>by
   obtain ⟨cs',h1,h2⟩:=hi i AB;obtain ⟨y,rfl,hq⟩:=hel _ _ _ h2;rw [hc] at h1;exact ⟨y,h1,hq⟩)
  have hlen:((List.range len).map F).length=len:=by simp
  refine ⟨(List.range len).map F,⟨_,rfl,some a,cap,by rw [hlen],by rw [hlen];exact hl,hm,?_⟩,fun y hy=>?_⟩
  ·intro hne;have hfl:=flat_length f n hn ((List.range len).map F);rw [hlen] at hfl;have hpos:0<len*n:=by
    rcases YG (len*n) with h0 | h0
    · exact absurd (lu AB) hne
    · exact h0
   have hn0:0<n:=Nat.pos_of_mul_pos_left hpos;have key:∀ j,j<len*n->w.cell? (a.add j)=(((List.range len).map F).flatMap f)[j]? := fun j hj=>by
    have h1:j / n<len:=aaj (by rw [rX];exact hj);have h2:j % n<n:=UC _ hn0;have h3:=flat_get f n hn ((List.range len).map F) (j / n) (j % n) (by rw [hlen];exact h1) h2;rw [rY] at h3;have h4:=(World.cells?_some (hF (j / n) h1).1).2.2 (j % n) h2;rw [Go.Deep.add_add,rY] at h4;rw [h4,h3];simp
   have h00:=key 0 hpos;obtain ⟨b,o,spot⟩:=a;have hex:∃ v,w.cell? (Addr.add ⟨b,o,spot⟩ 0)=some v:=by
    rw [h00,Dh AB];exact ⟨_,rfl⟩
   obtain ⟨v0,hv0⟩:=hex;have hspot:spot=none:=by simpa [Addr.add] using World.cell?_spot hv0
   subst hspot;refine ⟨b,o,rfl,?_,fun j v hj=>?_⟩
   ·have:=World.block_lt_of_cell? w _ hv0
    simpa [Addr.add] using this
   ·have hjl:j<len*n:=by
     rcases rU j (len*n) with h' | h'
     · exact h'
     · rw [YN AB] at hj;cases hj
    rw [<- Go.WideShapes.add_plain,key j hjl];exact hj
  ·obtain ⟨i,hi',rfl⟩:=ED.1 hy;exact (hF i (Et.1 hi')).2
theorem aaY:Tryz.prog.cellsOf 3=1:=by kernel_rfl
theorem adf:Tryz.prog.cellsOf 39=2:=by kernel_rfl
theorem ak1:Tryz.prog.cellsOf 45=3:=by kernel_rfl
theorem ak2:Tryz.prog.cellsOf 50=6:=by kernel_rfl
theorem au3:Tryz.prog.cellsOf 26=3:=by kernel_rfl
theorem au4:Tryz.prog.cellsOf 46=1:=by kernel_rfl
theorem Zn {fuel:Nat} {cs:List Value} {x:DataW H×List MemPlace} (h:DataW.trod enc Tryz.prog w base spare held fuel 3 cs=some x):∃ n:Int,cs=DR n/\En n:=by
 obtain ⟨n,h1,-,h2⟩:=DataW.trod_int Tryz.underlying3 h;exact ⟨n,h1,h2⟩
theorem ajT {fuel:Nat} {cs:List Value} {x:DataW H×List MemPlace} (h:DataW.trod enc Tryz.prog w base spare held fuel 39 cs=some x):∃ p:Pt,cs=Ee p/\zh p:=by
 obtain ⟨y0,y1,n,-,hl,h0,h1⟩:=trod_struct2 Tryz.underlying39 h;rw [adf] at hl;obtain ⟨c0,c1,rfl⟩:=au0 hl;simp only [aaY,sG,abV,abW,O8] at h0 h1;obtain ⟨a,ha,hwa⟩:=Zn h0;obtain ⟨b,hb,hwb⟩:=Zn h1;simp only [DR,List.cons.injEq,and_true] at ha hb;subst ha hb;exact ⟨⟨a,b⟩,rfl,hwa,hwb⟩
theorem au5 {fuel:Nat} {cs:List Value} {x:DataW H×List MemPlace} (h:DataW.trod enc Tryz.prog w base spare held fuel 45 cs=some x):∃ p:Nd,cs=QY p/\ade p:=by
 obtain ⟨y0,y1,n,-,hl,h0,h1⟩:=trod_struct2 Tryz.underlying45 h;rw [ak1] at hl;obtain ⟨c0,c1,c2,rfl⟩:=au1 hl;simp only [aaY,adf,sG,abV,abW,O8] at h0 h1;obtain ⟨a,ha,hwa⟩:=Zn h0;obtain ⟨b,hb,hwb⟩:=ajT h1;simp only [DR,Ee,List.cons.injEq,and_true] at ha hb;obtain ⟨hb1,hb2⟩:=hb;subst ha hb1 hb2;exact ⟨⟨a,b⟩,rfl,hwa,hwb⟩
end
theorem results_tmp3 {fn:Func} {t u v:Tmp} (h:fn.results=#[.tmp t,.tmp u,.tmp v]) (tmps:Array Value) (P:Program) (w:World):(results fn tmps).run P w=.ok (.tuple #[tmps.getD t undef,tmps.getD u undef,tmps.getD v undef]) w:=by
 simp [results,h]
