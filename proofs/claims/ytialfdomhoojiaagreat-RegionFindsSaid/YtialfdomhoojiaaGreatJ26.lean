import Derived.Test.YtialfdomhoojiaaGreatJ19
import Derived.Deep.Slices
import Derived.Lib.SmallJoins
set_option linter.unusedSimpArgs false
set_option linter.unusedVariables false
set_option maxRecDepth 100000
set_option maxHeartbeats 1000000
namespace Go.Proofs.YtialfdomhoojiaaGreat
open Go.RowKit
theorem ak5 (v:Value) (l:List Int) (n:Int) (w:World) (h:Ints w v l):Calls Tryz.prog 29 #[v,.int .i64 n] w fun e w'=>e=.returned (.bool (l.any (fun y=>decide (y=n))))/\AP w w':=by
 obtain ⟨A,c,rfl,hn,hc,hR⟩:=h;unfold maxLen at hc;have HR:=AA hR;clear hR;go_enter Tryz.func29,Tryz.ntmps29;go_wp2_with fail;go_loopw [5] (fun u wr=>∃ k:Nat,k<=l.length/\u=.int .i64 k/\AP w wr/\∀ j (hj:j<l.length),j<k->decide (l[j]=n)=false) (fun u _=>l.length-(intOf u).toNat)
 case atStart => exact ⟨0,BZ _,rfl,bR w,fun _ _ h=>by omega⟩
 case round =>
  obtain ⟨k,hk,rfl,hb,hno⟩:=hrel;have Hb:=AA hb;have Hno:=AA hno;clear hb hno;by_cases hlt:k<l.length
  case pos =>
   obtain ⟨b,o,rfl,hlb,c0⟩:=(HR.out.mono Hb.out).int hlt;by_cases he:l[k]=n
   ·have hd:(l[k] == n)=true:=by simp [he]
    have hf:=Ri l (fun y=>decide (y=n)) k hlt (by simpa using he);have Hf:=AA hf;clear he hf;go_wp2;go_ret;exact ⟨C9 Hf.out.symm,Hb.out⟩
   ·have hd:(l[k] == n)=false:=by simpa using he
    have Hd:=AA (show decide (l[k]=n)=false by simpa using he);clear he;go_wp2;go_roundw
    case rel => exact ⟨k+1,AB,BI,Hb.out,all_succ (p:=fun y=>decide (y=n)=false) Hno.out hlt Hd.out⟩
    case measure => exact BK
  case neg =>
  have hf:=UA l (fun y=>decide (y=n)) (fun j hj=>Hno.out j hj AB);have Hf:=AA hf;clear hf;go_wp2;go_ret;exact ⟨C9 Hf.out.symm,Hb.out⟩
structure Cr where
 pos:Int
 arc:Int
 out:Int
instance:DecidableEq Cr:=fun a b =>
 if h:a.pos=b.pos/\a.arc=b.arc/\a.out=b.out then isTrue (by cases a;cases b;simp_all) else isFalse (by rintro rfl;simp at h)
structure Pc where
 arc:Int
 path:List Pt
 enter:Int
 leave:Int
structure Prt where
 ays:Int
 pieces:List Pc
 nodes:List Nd
section
variable {w w':World} {v:Value}
end
section
variable {w:World} {A:Option Addr}
end
structure Ed where
 side:Int
 adp:Bool
 line:Int
 lo:Int
 hi:Int
def adq (g:Ed):Bool:=decide (g.side=1) || decide (g.side=2)
def ak6 (g:Ed) (p:Pt):Int:=if g.adp then p.x else p.y
def ajJ (g:Ed) (p:Pt):Int:=if adq g then KC (ak6 g p) g.line else KC g.line (ak6 g p)
open Go.RowKit Go.ChangeShapes Go.WideShapes Go.Deep Go.Joins
instance:Inhabited Pt:=⟨⟨0,0⟩⟩
instance:Inhabited Nd:=⟨⟨0,⟨0,0⟩⟩⟩
instance:Inhabited Ar:=⟨⟨0,0,0,[],0,0⟩⟩
def xC (p:Pt):Prop:=ES p.x/\ES p.y
def adr (n:Nd):Prop:=ES n.id/\xC n.pt
def ak7 (a:Ar):Prop:=ES a.id/\ES a.fr/\ES a.dst/\ES a.left/\ES a.right/\∀ p∈a.via,xC p
def auQ (p:Pl):Prop:=(∀ n∈p.nodes,adr n)/\(∀ a∈p.AU,ak7 a)/\∀ f∈p.faces,ES f
theorem auR {α:Type} {l:List α} (h:l.length=2):∃ a b,l=[a,b]:=by
 match l,h with
 | [a,b],_=>exact ⟨a,b,rfl⟩
theorem auS {α:Type} {l:List α} (h:l.length=3):∃ a b c,l=[a,b,c]:=by
 match l,h with
 | [a,b,c],_=>exact ⟨a,b,c,rfl⟩
theorem auT {α:Type} {l:List α} (h:l.length=6):∃ a b c d e f,l=[a,b,c,d,e,f]:=by
 match l,h with
 | [a,b,c,d,e,f],_=>exact ⟨a,b,c,d,e,f,rfl⟩
section
variable {H:Type} {enc:TypeId×Value->H} {w:World} {base:Nat} {spare:Nat->Bool} {held:Bool}
theorem ak8 {P:Program} {α:Type} [Inhabited α] {t e:TypeId} {n:Nat} (f:α->List Value) (Q:α->Prop) (ht:P.underlying t=some (.slice e)) (hc:P.cellsOf e=n) (hn:∀ a,(f a).length=n)
  (hel:∀ m cs x,DataW.trod enc P w base spare held m e cs=some x->∃ a,cs=f a/\Q a) {fuel:Nat} {cs:List Value} {x:DataW H×List MemPlace} (h:DataW.trod enc P w base spare held fuel t cs=some x) :
  ∃ l:List α,(∃ v,cs=[v]/\Sl w v l.length (l.flatMap f))/\∀ a∈l,Q a:=by
 rcases open_slice ht h with ⟨rfl,_⟩ | ⟨a,len,cap,m,k,D,Pl,rfl,hb,hl,hm,hmm,-,hi⟩
 · exact ⟨[],⟨_,rfl,none,0,rfl,DT _,by simp [maxLen],Row.nil⟩,fun _ h=>by cases h⟩
 ·have hlm:len<=m:=by rw [hmm];split<;>omega
  obtain ⟨F,hF⟩:=choose_lt (α:=α) (p:=fun i y=>w.cells? base (a.add (i*n)) n=some (f y)/\Q y) (n:=len) (fun i hil=>by
   obtain ⟨cs',h1,h2⟩:=hi i AB;obtain ⟨y,rfl,hq⟩:=hel _ _ _ h2;rw [hc] at h1;exact ⟨y,h1,hq⟩)
  have hlen:((List.range len).map F).length=len:=by simp
  refine ⟨(List.range len).map F,⟨_,rfl,some a,cap,by rw [hlen],by rw [hlen];exact hl,hm,?_⟩,fun y hy=>?_⟩
  ·intro hne;have hfl:=flat_length f n hn ((List.range len).map F);rw [hlen] at hfl;have hpos:0<len*n:=by
    rcases VF (len*n) with h0 | h0
    · exact absurd (lQ AB) hne
    · exact h0
   have hn0:0<n:=Nat.pos_of_mul_pos_left hpos;have key:∀ j,j<len*n->w.cell? (a.add j)=(((List.range len).map F).flatMap f)[j]? := fun j hj=>by
    have h1:j / n<len:=ab4 (by rw [sJ];exact hj);have h2:j % n<n:=U7 _ hn0;have h3:=flat_get f n hn ((List.range len).map F) (j / n) (j % n) (by rw [hlen];exact h1) h2;rw [sK] at h3;have h4:=(World.cells?_some (hF (j / n) h1).1).2.2 (j % n) h2;rw [Go.Deep.add_add,sK] at h4;rw [h4,h3];simp
   have h00:=key 0 hpos;obtain ⟨b,o,spot⟩:=a;have hex:∃ v,w.cell? (Addr.add ⟨b,o,spot⟩ 0)=some v:=by
    rw [h00,DK AB];exact ⟨_,rfl⟩
   obtain ⟨v0,hv0⟩:=hex;have hspot:spot=none:=by simpa [Addr.add] using World.cell?_spot hv0
   subst hspot;refine ⟨b,o,rfl,?_,fun j v hj=>?_⟩
   ·have:=World.block_lt_of_cell? w _ hv0
    simpa [Addr.add] using this
   ·have hjl:j<len*n:=by
     rcases rU j (len*n) with h' | h'
     · exact h'
     · rw [Y0 AB] at hj;cases hj
    rw [<- Go.WideShapes.add_plain,key j hjl];exact hj
  ·obtain ⟨i,hi',rfl⟩:=EM.1 hy;exact (hF i (F5.1 hi')).2
theorem aCa:Tryz.prog.cellsOf 3=1:=by kernel_rfl
theorem aCb:Tryz.prog.cellsOf 39=2:=by kernel_rfl
theorem ak9:Tryz.prog.cellsOf 45=3:=by kernel_rfl
theorem akA:Tryz.prog.cellsOf 50=6:=by kernel_rfl
theorem auU:Tryz.prog.cellsOf 26=3:=by kernel_rfl
theorem auV:Tryz.prog.cellsOf 46=1:=by kernel_rfl
theorem ZA {fuel:Nat} {cs:List Value} {x:DataW H×List MemPlace} (h:DataW.trod enc Tryz.prog w base spare held fuel 3 cs=some x):∃ n:Int,cs=D5 n/\ES n:=by
 obtain ⟨n,h1,-,h2⟩:=DataW.trod_int Tryz.underlying3 h;exact ⟨n,h1,h2⟩
theorem akB {fuel:Nat} {cs:List Value} {x:DataW H×List MemPlace} (h:DataW.trod enc Tryz.prog w base spare held fuel 39 cs=some x):∃ p:Pt,cs=EX p/\xC p:=by
 obtain ⟨y0,y1,n,-,hl,h0,h1⟩:=trod_struct2 Tryz.underlying39 h;rw [aCb] at hl;obtain ⟨c0,c1,rfl⟩:=auR hl;simp only [aCa,rY,ab9,abA,OB] at h0 h1;obtain ⟨a,ha,hwa⟩:=ZA h0;obtain ⟨b,hb,hwb⟩:=ZA h1;simp only [D5,List.cons.injEq,and_true] at ha hb;subst ha hb;exact ⟨⟨a,b⟩,rfl,hwa,hwb⟩
theorem auW {fuel:Nat} {cs:List Value} {x:DataW H×List MemPlace} (h:DataW.trod enc Tryz.prog w base spare held fuel 45 cs=some x):∃ p:Nd,cs=SA p/\adr p:=by
 obtain ⟨y0,y1,n,-,hl,h0,h1⟩:=trod_struct2 Tryz.underlying45 h;rw [ak9] at hl;obtain ⟨c0,c1,c2,rfl⟩:=auS hl;simp only [aCa,aCb,rY,ab9,abA,OB] at h0 h1;obtain ⟨a,ha,hwa⟩:=ZA h0;obtain ⟨b,hb,hwb⟩:=akB h1;simp only [D5,EX,List.cons.injEq,and_true] at ha hb;obtain ⟨hb1,hb2⟩:=hb;subst ha hb1 hb2;exact ⟨⟨a,b⟩,rfl,hwa,hwb⟩
end
def aCc (n lo hi:Int):Bool:=decide (lo<=n) && decide (n<=hi)
def aCd (p:Pt):Bool:=aCc p.x (-1048576) 1048576 && aCc p.y (-1048576) 1048576
theorem auX (p:Pt) (w:World):Calls Tryz.prog 26 #[BD p] w fun e w'=>e=.returned (.bool (aCd p))/\AP w w':=by
 unfold BD aCd aCc;by_cases h1:-1048576<=p.x
 case neg =>
  go_enter Tryz.func26,Tryz.ntmps26;go_wp2;go_ret;exact ⟨C9 abT,bA (bR w) _⟩
 by_cases h2:p.x<=1048576
 case neg =>
  go_enter Tryz.func26,Tryz.ntmps26;go_wp2;go_ret;exact ⟨C9 abT,bA (bR w) _⟩
 by_cases h3:-1048576<=p.y
 case neg =>
  go_enter Tryz.func26,Tryz.ntmps26;go_wp2;go_ret;exact ⟨C9 abT,bA (bR w) _⟩
 go_enter Tryz.func26,Tryz.ntmps26;go_wp2;go_ret;exact ⟨C9 abT,bA (bR w) _⟩
theorem results_tmp3 {fn:Func} {t u v:Tmp} (h:fn.results=#[.tmp t,.tmp u,.tmp v]) (tmps:Array Value) (P:Program) (w:World):(results fn tmps).run P w=.ok (.tuple #[tmps.getD t undef,tmps.getD u undef,tmps.getD v undef]) w:=by
 simp [results,h]
structure Facing (g k:Ed):Prop where
 up:k.adp=g.adp
 line:k.line=g.line
 lo:k.lo=g.lo
 hi:k.hi=g.hi
 pos:adq k = !adq g
section
variable {g k:Ed} (h:Facing g k)
include h
end
def MR (l:List Int) (n:Int):List Int:=if l.any (fun y=>decide (y=n)) then l else l.takeWhile (fun y=>decide (y<n))++n::l.dropWhile (fun y=>decide (y<n))
def Oz (l:List Int):List Int:=l.foldl MR []
theorem auY {α:Type} {l:List α} {q:α->Bool} {k:Nat} (h:∀ j (hj:j<l.length),j<k->q l[j]=true) (he:k=l.length\/∃ hk:k<l.length,q l[k]=false):l.takeWhile q=l.take k/\l.dropWhile q=l.drop k:=by
 induction l generalizing k with
 | nil=>simp
 | cons a l ih =>
  cases k with
  | zero =>
   rcases he with h0 | ⟨hk,h0⟩
   · simp at h0
   ·simp only [List.getElem_cons_zero] at h0;rw [ab8,fU];simp [h0]
  | succ k =>
   have h0:=h 0 Aw AB;simp only [List.getElem_cons_zero] at h0;rw [ab8,fU];simp only [h0,if_true];rw [abA,ab9];obtain ⟨e1,e2⟩:=ih (k:=k) (fun j hj hjk=>by have h1:=h (j+1) (by simpa using hj) AB;simpa only [List.getElem_cons_succ] using h1) (by
    rcases he with h1 | ⟨hk,h1⟩
    · left;simpa using h1
    · right;exact ⟨by simpa using hk,by simpa only [List.getElem_cons_succ] using h1⟩)
   rw [e1,e2];exact ⟨rfl,rfl⟩
theorem auZ (l m:List Int):Oz (l++m)=m.foldl MR (Oz l):=by
 unfold Oz;rw [O9]
