import Derived.Test.YtpempeioeiaijaaGreatJ04
import Derived.Deep.Slices
import Derived.Lib.SmallJoins
set_option linter.unusedSimpArgs false
set_option linter.unusedVariables false
set_option maxRecDepth 100000
set_option maxHeartbeats 1000000
namespace Go.Proofs.YtpempeioeiaijaaGreat
structure Cr where
 pos:Int
 arc:Int
 out:Int
instance:DecidableEq Cr:=fun a b =>
 if h:a.pos=b.pos/\a.arc=b.arc/\a.out=b.out then isTrue (by cases a;cases b;simp_all) else isFalse (by rintro rfl;simp at h)
open Go.RowKit
structure Pc where
 arc:Int
 path:List Pt
 enter:Int
 leave:Int
structure Prt where
 azC:Int
 pieces:List Pc
 nodes:List Nd
section
variable {w w':World} {v:Value}
end
section
variable {w:World} {A:Option Addr}
end
structure Ed where
 side:Int
 aff:Bool
 line:Int
 lo:Int
 hi:Int
def afg (g:Ed):Bool:=decide (g.side=1) || decide (g.side=2)
def alR (g:Ed) (p:Pt):Int:=if g.aff then p.x else p.y
def ajb (g:Ed) (p:Pt):Int:=if afg g then Mc (alR g p) g.line else Mc g.line (alR g p)
open Go.RowKit Go.ChangeShapes Go.WideShapes Go.Deep Go.Joins
instance:Inhabited Pt:=⟨⟨0,0⟩⟩
instance:Inhabited Nd:=⟨⟨0,⟨0,0⟩⟩⟩
instance:Inhabited Ar:=⟨⟨0,0,0,[],0,0⟩⟩
def L6 (p:Pt):Prop:=F6 p.x/\F6 p.y
theorem alS {α:Type} {l:List α} (h:l.length=2):∃ a b,l=[a,b]:=by
 match l,h with
 | [a,b],_=>exact ⟨a,b,rfl⟩
section
variable {H:Type} {enc:TypeId×Value->H} {w:World} {base:Nat} {spare:Nat->Bool} {held:Bool}
theorem alT {P:Program} {α:Type} [Inhabited α] {t e:TypeId} {n:Nat} (f:α->List Value) (Q:α->Prop) (ht:P.underlying t=some (.slice e)) (hc:P.cellsOf e=n) (hn:∀ a,(f a).length=n)
  (hel:∀ m cs x,DataW.trod enc P w base spare held m e cs=some x->∃ a,cs=f a/\Q a) {fuel:Nat} {cs:List Value} {x:DataW H×List MemPlace} (h:DataW.trod enc P w base spare held fuel t cs=some x) :
  ∃ l:List α,(∃ v,cs=[v]/\Sl w v l.length (l.flatMap f))/\∀ a∈l,Q a:=by
 rcases open_slice ht h with ⟨rfl,_⟩ | ⟨a,len,cap,m,k,D,Pl,rfl,hb,hl,hm,hmm,-,hi⟩
 · exact ⟨[],⟨_,rfl,none,0,rfl,Cj _,by simp [maxLen],Row.nil⟩,fun _ h=>by cases h⟩
 ·have hlm:len<=m:=by rw [hmm];split<;>omega
  obtain ⟨F,hF⟩:=choose_lt (α:=α) (p:=fun i y=>w.cells? base (a.add (i*n)) n=some (f y)/\Q y) (n:=len) (fun i hil=>by
   obtain ⟨cs',h1,h2⟩:=hi i AA;obtain ⟨y,rfl,hq⟩:=hel _ _ _ h2;rw [hc] at h1;exact ⟨y,h1,hq⟩)
  have hlen:((List.range len).map F).length=len:=by simp
  refine ⟨(List.range len).map F,⟨_,rfl,some a,cap,by rw [hlen],by rw [hlen];exact hl,hm,?_⟩,fun y hy=>?_⟩
  ·intro hne;have hfl:=flat_length f n hn ((List.range len).map F);rw [hlen] at hfl;have hpos:0<len*n:=by
    rcases kL (len*n) with h0 | h0
    · exact absurd (agv AA) hne
    · exact h0
   have hn0:0<n:=Nat.pos_of_mul_pos_left hpos;have key:∀ j,j<len*n->w.cell? (a.add j)=(((List.range len).map F).flatMap f)[j]? := fun j hj=>by
    have h1:j / n<len:=agy (by rw [yT];exact hj);have h2:j % n<n:=Uh _ hn0;have h3:=flat_get f n hn ((List.range len).map F) (j / n) (j % n) (by rw [hlen];exact h1) h2;rw [acs] at h3;have h4:=(World.cells?_some (hF (j / n) h1).1).2.2 (j % n) h2;rw [Go.Deep.add_add,acs] at h4;rw [h4,h3];simp
   have h00:=key 0 hpos;obtain ⟨b,o,spot⟩:=a;have hex:∃ v,w.cell? (Addr.add ⟨b,o,spot⟩ 0)=some v:=by
    rw [h00,Di AA];exact ⟨_,rfl⟩
   obtain ⟨v0,hv0⟩:=hex;have hspot:spot=none:=by simpa [Addr.add] using World.cell?_spot hv0
   subst hspot;refine ⟨b,o,rfl,?_,fun j v hj=>?_⟩
   ·have:=World.block_lt_of_cell? w _ hv0
    simpa [Addr.add] using this
   ·have hjl:j<len*n:=by
     rcases Nat.lt_or_ge j (len*n) with h' | h'
     · exact h'
     · rw [ZJ AA] at hj;cases hj
    rw [<- Go.WideShapes.add_plain,key j hjl];exact hj
  ·obtain ⟨i,hi',rfl⟩:=Ez.1 hy;exact (hF i (FQ.1 hi')).2
theorem afh:Tryz.prog.cellsOf 3=1:=by kernel_rfl
theorem oZ:Tryz.prog.cellsOf 42=2:=by kernel_rfl
theorem alU {fuel:Nat} {cs:List Value} {x:DataW H×List MemPlace} (h:DataW.trod enc Tryz.prog w base spare held fuel 3 cs=some x):∃ n:Int,cs=DY n/\F6 n:=by
 obtain ⟨n,h1,-,h2⟩:=DataW.trod_int Tryz.underlying3 h;exact ⟨n,h1,h2⟩
theorem auV {fuel:Nat} {cs:List Value} {x:DataW H×List MemPlace} (h:DataW.trod enc Tryz.prog w base spare held fuel 42 cs=some x):∃ p:Pt,cs=DK p/\L6 p:=by
 obtain ⟨y0,y1,n,-,hl,h0,h1⟩:=trod_struct2 Tryz.underlying42 h;rw [oZ] at hl;obtain ⟨c0,c1,rfl⟩:=alS hl;simp only [afh,acZ,List.drop_succ_cons,List.take_succ_cons,OD] at h0 h1;obtain ⟨a,ha,hwa⟩:=alU h0;obtain ⟨b,hb,hwb⟩:=alU h1;simp only [DY,List.cons.injEq,and_true] at ha hb;subst ha hb;exact ⟨⟨a,b⟩,rfl,hwa,hwb⟩
theorem auW {fuel:Nat} {cs:List Value} {x:DataW H×List MemPlace} (h:DataW.trod enc Tryz.prog w base spare held fuel 25 cs=some x):∃ l:List Pt,(∃ v,cs=[v]/\CZ w v l)/\∀ p∈l,L6 p :=
 alT DK L6 Tryz.underlying25 oZ I7 (fun _ _ _ h=>auV h) h
end
def abP (n lo hi:Int):Bool:=decide (lo<=n) && decide (n<=hi)
def abQ (p:Pt):Bool:=abP p.x (-1048576) 1048576 && abP p.y (-1048576) 1048576
theorem auX (p:Pt) (w:World):Calls Tryz.prog 58 #[BA p] w fun e w'=>e=.returned (.bool (abQ p))/\AU w w':=by
 unfold BA abQ abP;by_cases h1:-1048576<=p.x
 case neg =>
  go_enter Tryz.func58,Tryz.ntmps58;go_wp2;go_ret;exact ⟨CP acS,bA (bR w) _⟩
 by_cases h2:p.x<=1048576
 case neg =>
  go_enter Tryz.func58,Tryz.ntmps58;go_wp2;go_ret;exact ⟨CP acS,bA (bR w) _⟩
 by_cases h3:-1048576<=p.y
 case neg =>
  go_enter Tryz.func58,Tryz.ntmps58;go_wp2;go_ret;exact ⟨CP acS,bA (bR w) _⟩
 go_enter Tryz.func58,Tryz.ntmps58;go_wp2;go_ret;exact ⟨CP acS,bA (bR w) _⟩
