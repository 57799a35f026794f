import Derived.Deep.Slices
import Derived.Lib.SmallJoins
import Derived.Test.YtngoejdlompfoaaGreatJ17
import Derived.Maps.OwnSet
set_option linter.unusedSimpArgs false
set_option linter.unusedVariables false
set_option maxRecDepth 100000
set_option maxHeartbeats 4000000
namespace Go.Proofs.YtngoejdlompfoaaGreat
open Go.RowKit Go.ChangeShapes Go.WideShapes Go.Deep Go.Joins Tryz
instance:Inhabited Pt:=⟨⟨0,0⟩⟩
instance:Inhabited Nd:=⟨⟨0,⟨0,0⟩⟩⟩
instance:Inhabited Ar:=⟨⟨0,0,0,[],0,0⟩⟩
def aB2(p:Pt):Prop:=Eb p.x/\Eb p.y
def acM(n:Nd):Prop:=Eb n.id/\aB2 n.pt
def ak7(a:Ar):Prop:=Eb a.id/\Eb a.fr/\Eb a.dst/\Eb a.left/\Eb a.right/\∀p∈a.via,aB2 p
def att(p:Pl):Prop:=(∀n∈p.nodes,acM n)/\(∀a∈p.AP,ak7 a)/\∀f∈p.faces,Eb f
theorem atu{α:Type}{l:List α}(h:l.length=2):∃a b,l=[a,b]:=by match l,h with|[a,b],_=>exact⟨a,b,rfl⟩
theorem atv{α:Type}{l:List α}(h:l.length=3):∃a b c,l=[a,b,c]:=by match l,h with|[a,b,c],_=>exact⟨a,b,c,rfl⟩
theorem atw{α:Type}{l:List α}(h:l.length=6):∃a b c d e f,l=[a,b,c,d,e,f]:=by match l,h with|[a,b,c,d,e,f],_=>exact⟨a,b,c,d,e,f,rfl⟩
section
variable{H:Type}{enc:TypeId×Value->H}{w:World}{base:Nat}{spare:Nat->Bool}{held:Bool}
theorem ak8{P:Program}{α:Type}[Inhabited α]{t e:TypeId}{n:Nat}(f:α->List Value)(Q:α->Prop)(ht:P.underlying t=some (.slice e))(hc:P.cellsOf e=n)(hn:∀a,(f a).length=n)(hel:∀m cs x,DataW.trod enc P w base spare held m e cs=some x->∃a,cs=f a/\Q a){M:Nat}{cs:List Value}{x:DataW H×List MemPlace}(h:DataW.trod enc P w base spare held M t cs=some x):∃l:List α,(∃v,cs=[v]/\Sl w v l.length (l.flatMap f))/\∀a∈l,Q a:=by
 rcases open_slice ht h with⟨rfl,_⟩|⟨a,len,cap,m,k,D,Pl,rfl,hb,hl,hm,hmm,-,hi⟩;.exact⟨[],⟨_,rfl,none,0,rfl,Dh _,by simp[maxLen],Row.nil⟩,λ_ h=>by cases h⟩
 have hlm:len<=m:=by rw[hmm];split<;>omega
 obtain⟨c,hF⟩:=choose_lt (α:=α) (p:=λi y=>w.cells? base (a.add<|i*n) n=some (f y)/\Q y) (n:=len) (λi hil=>by obtain⟨cs',h1,h2⟩:=hi i I;obtain⟨y,rfl,hq⟩:=hel _ _ _ h2;rw[hc]at h1;exact⟨y,h1,hq⟩);have s:((List.range len).map c).length=len:=by simp
 refine⟨(List.range len).map c,⟨_,rfl,some a,cap,by rw[s],by rw[s];exact hl,hm,?_⟩,λy hy=>?_⟩
 .intro hne;have hfl:=flat_length f n hn<|(List.range len).map c;rw[s]at hfl;have z:0<len*n:=by
   rcases Xe<|len*n with h0|h0;.exact absurd (qh I) hne
   exact h0
  have hn0:0<n:=Nat.pos_of_mul_pos_left z;have T:∀j,j<len*n->w.cell? (a.add j)=(((List.range len).map c).flatMap f)[j]?:=λj U=>by have h1:j/n<len:=aDj (by rw[yA];exact U);have h2:j%n<n:=V7 _ hn0;have h3:=flat_get f n hn ((List.range len).map c) (j/n) (j%n) (by rw[s];exact h1) h2;rw[yB]at h3;have h4:=(World.cells?_some (hF (j/n) h1).1).2.2 (j%n) h2;rw[Go.Deep.add_add,yB]at h4;rw[h4,h3];simp
  have h00:=T 0 z;obtain⟨b,o,C⟩:=a;have hex:∃v,w.cell? (Addr.add ⟨b,o,C⟩ 0)=some v:=by rw[h00,DK I];exact⟨_,rfl⟩
  obtain⟨v0,hv0⟩:=hex;have K:C=none:=by simpa[Addr.add]using World.cell?_spot hv0
  subst K;refine⟨b,o,rfl,?_,λj v U=>?_⟩;.have:=World.block_lt_of_cell? w _ hv0;simpa[Addr.add]using this
  have hjl:j<len*n:=by
   rcases aCi j<|len*n with h'|h';.exact h'
   rw[aN I]at U;cases U
  rw[<-Go.WideShapes.add_plain,T j hjl];exact U
 obtain⟨i,hi',rfl⟩:=EP.1 hy;exact(hF i<|FC.1 hi').2
theorem aFb:prog.cellsOf 3=1:=by kernel_rfl
theorem acN:prog.cellsOf 50=2:=by kernel_rfl
theorem ak9:prog.cellsOf 56=3:=by kernel_rfl
theorem akA:prog.cellsOf 31=6:=by kernel_rfl
theorem atx:prog.cellsOf 26=3:=by kernel_rfl
theorem aty:prog.cellsOf 29=1:=by kernel_rfl
theorem fP{c:Nat}{cs:List Value}{x:DataW H×List MemPlace}(h:DataW.trod enc prog w base spare held c 3 cs=some x):∃n:Int,cs=DF n/\Eb n:=by obtain⟨n,h1,-,h2⟩:=DataW.trod_int Tryz.underlying3 h;exact⟨n,h1,h2⟩
theorem akB{c:Nat}{cs:List Value}{x:DataW H×List MemPlace}(h:DataW.trod enc prog w base spare held c 50 cs=some x):∃p:Pt,cs=Ep p/\aB2 p:=by obtain⟨C,K,n,-,s,h0,h1⟩:=trod_struct2 Tryz.underlying50 h;rw[acN]at s;obtain⟨M,c1,rfl⟩:=atu s;simp only[aFb,yI,aDr,aDs,PZ]at h0 h1;obtain⟨a,z,j⟩:=fP h0;obtain⟨b,hb,o⟩:=fP h1;simp only[DF,List.cons.injEq,and_true]at z hb;subst z hb;exact⟨⟨a,b⟩,rfl,j,o⟩
theorem atz{c:Nat}{cs:List Value}{x:DataW H×List MemPlace}(h:DataW.trod enc prog w base spare held c 56 cs=some x):∃p:Nd,cs=UO p/\acM p:=by obtain⟨K,M,n,-,z,h0,h1⟩:=trod_struct2 Tryz.underlying56 h;rw[ak9]at z;obtain⟨T,c1,c2,rfl⟩:=atv z;simp only[aFb,acN,yI,aDr,aDs,PZ]at h0 h1;obtain⟨a,C,j⟩:=fP h0;obtain⟨b,hb,o⟩:=akB h1;simp only[DF,Ep,List.cons.injEq,and_true]at C hb;obtain⟨s,hb2⟩:=hb;subst C s hb2;exact⟨⟨a,b⟩,rfl,j,o⟩
end
def jd(n lo hi:Int):Bool:=decide (lo<=n)&&decide (n<=hi)
theorem au0(n lo hi:Int):jd n lo hi=true↔lo<=n/\n<=hi:=by simp[jd]
def acO(p:Pt):Bool:=jd p.x (-1048576) 1048576&&jd p.y (-1048576) 1048576
def au1(s:Se):Pt:=⟨s.at_.x+s.cols*s.width,s.at_.y+s.rows*s.height⟩
def acP(s:Se):Bool:=acO s.at_&&(jd s.width 1 65536&&(jd s.height 1 65536&&(jd s.cols 1 16&&jd s.rows 1 16)))
def aFc(s:Se):Bool:=acP s&&acO (au1 s)
def akC(s:Se)(n:Int):Bool:=decide (1<=n)&&decide (n<=s.cols*s.rows)
def colS(s:Se)(n:Int):Int:=(n-1).tmod s.cols
def aFd(s:Se)(n:Int):Int:=(n-1).tdiv s.cols
structure akD(s:Se):Prop where
 x:-1048576<=s.at_.x/\s.at_.x<=1048576
 y:-1048576<=s.at_.y/\s.at_.y<=1048576
 w:1<=s.width/\s.width<=65536
 h:1<=s.height/\s.height<=65536
 c:1<=s.cols/\s.cols<=16
 r:1<=s.rows/\s.rows<=16
theorem au2{s:Se}(h:acP s=true):akD s:=by unfold acP acO at h;simp only[EC,au0]at h;obtain⟨⟨h1,h2⟩,h3,c,j,o⟩:=h;exact⟨h1,h2,h3,c,j,o⟩
theorem au3{s:Se}(h:aFc s=true):akD s:=by unfold aFc at h;rw[EC]at h;exact au2 h.1
structure InS(s:Se)(n:Int):Prop where
 ok:aFc s=true
 lo:1<=n
 hi:n<=s.cols*s.rows
theorem InS.of{s:Se}{n:Int}(h1:aFc s=true)(h2:akC s n=true):InS s n:=by unfold akC at h2;simp only[EC,DI]at h2;exact⟨h1,h2.1,h2.2⟩
theorem InS.bd{s:Se}{n:Int}(h:InS s n):0<=colS s n/\colS s n<s.cols/\0<=aFd s n/\aFd s n<s.rows/\n=aFd s n*s.cols+colS s n+1:=by
 have hb:=au3 h.ok;have h1:=h.lo;have h2:=h.hi;have z:=hb.c;unfold colS aFd;rw[aCO I,aDe I];have c:=Int.emod_nonneg (n-1) (show s.cols≠0 by omega);have j:=aFy (n-1) (show 0<s.cols by omega);have C:=Int.mul_ediv_add_emod (n-1) s.cols;have o:0<=(n-1)/s.cols:=aDd I I;refine⟨c,j,o,?_,?_⟩
 .rcases aCR ((n-1)/s.cols) s.rows with h3|h3;.exact h3
  have:=yG h3 (show 0<=s.cols by omega);omega
 rw[KT];omega
theorem results_tmp3{j:Func}{t u v:Tmp}(h:j.results=#[.tmp t,.tmp u,.tmp v])(c:Array Value)(P:Program)(w:World):(results j c).run P w=.ok (.tuple #[c.getD t undef,c.getD u undef,c.getD v undef]) w:=by simp[results,h]
def vJ(g:Ed)(path:List Pt)(m k:Nat):List Pt:=if k=m+1 then[aFa g (path.getD m AY)<|path.getD k AY]else(path.drop<|m+1).take<|k-(m+1)
def qF(g:Ed)(ns:List Nd)(id:Int)(path:List Pt)(m k:Nat):List Cr:=if yO g ns (vJ g path m k)=true then[⟨rY g<|afD<|vJ g path m k,id,if innerS g<|path.getD m AY then 1 else 0⟩]else[]
def IZ(g:Ed)(ns:List Nd)(id:Int)(path:List Pt):Nat->Int×List Cr|0=>(-1,[])|k+1=>if onE g (path.getD k AY)=true then IZ g ns id path k else((k:Int),(IZ g ns id path k).2++if 0<=(IZ g ns id path k).1/\innerS g (path.getD (IZ g ns id path k).1.toNat AY)≠innerS g (path.getD k AY)then qF g ns id path (IZ g ns id path k).1.toNat k else[])
theorem au4(g:Ed)(c:List Nd)(id:Int)(path:List Pt)(k:Nat):-1<=(IZ g c id path k).1/\(IZ g c id path k).1<k/\(0<=(IZ g c id path k).1->onE g (path.getD (IZ g c id path k).1.toNat AY)=false)/\(IZ g c id path k).2.length<=k:=by induction k with|zero=>simp[IZ]|succ k j=>
  unfold IZ;split;.obtain⟨h1,h2,h3,o⟩:=j;exact⟨h1,I,h3,I⟩
  .rename_i s;obtain⟨h1,h2,h3,o⟩:=j;refine⟨show(-1:Int)<=(k:Int)by omega,show(k:Int)<((k+1:Nat):Int)by omega,λ_=>by simp only[aDt];exact Bool.eq_false_iff.2 s,?_⟩;show((IZ g c id path k).2++_).length<=k+1;rw[EK];have:(if 0<=(IZ g c id path k).1/\innerS g (path.getD (IZ g c id path k).1.toNat AY)≠innerS g (path.getD k AY)then qF g c id path (IZ g c id path k).1.toNat k else[]).length<=1:=by
    split;.unfold qF;split<;>simp
    simp
   omega
theorem akE{g:Ed}{c:List Nd}{id:Int}{path:List Pt}{k:Nat}(h:onE g (path.getD k AY)=true):IZ g c id path (k+1)=IZ g c id path k:=by rw[IZ,AZ h]
theorem akF{g:Ed}{c:List Nd}{id:Int}{path:List Pt}{k:Nat}{L:List Cr}(h:onE g (path.getD k AY)=false)(j:IZ g c id path k=(-1,L)):IZ g c id path (k+1)=((k:Int),L):=by rw[IZ,AX<|by rw[h];simp,j,AX Ak];simp
theorem akG{g:Ed}{c:List Nd}{id:Int}{path:List Pt}{k m:Nat}{L:List Cr}(h:onE g (path.getD k AY)=false)(j:IZ g c id path k=((m:Int),L))(hi:innerS g (path.getD m AY)=innerS g (path.getD k AY)):IZ g c id path (k+1)=((k:Int),L):=by
 rw[IZ,AX<|by rw[h];simp,j,AX];.simp
 simp only[aDt];exactλh=>h.2 hi
theorem akH{g:Ed}{c:List Nd}{id:Int}{path:List Pt}{k m:Nat}{L:List Cr}(h:onE g (path.getD k AY)=false)(j:IZ g c id path k=((m:Int),L))(hi:innerS g (path.getD m AY)≠innerS g (path.getD k AY)):IZ g c id path (k+1)=((k:Int),L++qF g c id path m k):=by
 rw[IZ,AX<|by rw[h];simp,j,AZ];.simp
 simp only[aDt];exact⟨I,hi⟩
theorem gY.rng{a b:Pt}{x:Int}(h:gY a b x):Eb<|nU a b x:=by obtain⟨h1,h2,h3,-⟩:=h.facts;obtain⟨c,j,o,s,z,C⟩:=af7 h1 h2 h3;have:=h.pa.2;refine L8 ?_ ?_<;>(unfold nU abG;split<;>omega)
theorem gY.line{a b:Pt}{x:Int}(h:gY a b x):Eb x:=by have h1:=h.lo;have h2:=h.pa.1;have h3:=h.pb.1;unfold abJ at h1;exact L8 I I
def Rd(w:World)(g:Nat)(cs:Array Value):Prop:=g<w.heap.size/\∀i,w.cell? ⟨g,i,none⟩=cs[i]?
theorem Rd.keep{w w':World}{g:Nat}{cs:Array Value}(h:Rd w g cs)(hb:AU w w'):Rd w' g cs:=⟨IQ h.1 hb.size,λi=>by rw[hb.cell (p:=⟨g,i,none⟩) h.1];exact h.2 i⟩
def Mv(w:World):Prop:=Rd w 0 #[.int .i64<|-1,.int .i64 0,.int .i64 0,.int .i64<|-1,.int .i64 1,.int .i64 0,.int .i64 0,.int .i64 1]
theorem Mv.keep{w w':World}(h:Mv w)(hb:AU w w'):Mv w':=Rd.keep h hb
structure Facing(g k:Ed):Prop where
 up:k.yL=g.yL
 line:k.line=g.line
 lo:k.lo=g.lo
 hi:k.hi=g.hi
 pos:yM k=!yM g
section
variable{g k:Ed}(h:Facing g k)
include h
theorem Facing.along(p:Pt):rY k p=rY g p:=by unfold rY;rw[h.up]
theorem Facing.across(p:Pt):Zk k p=Zk g p:=by unfold Zk;rw[h.up]
theorem Facing.on(p:Pt):onE k p=onE g p:=by unfold onE;rw[h.across,h.line]
theorem Facing.inner{p:Pt}(hn:onE g p=false):innerS k p=!innerS g p:=by
 unfold onE at hn;rw[IL]at hn;unfold innerS;rw[h.pos,h.across,h.line];cases yM g
 .simp only[aDw,if_true,O7,if_false];by_cases h1:g.line<Zk g p;.rw[Ia h1,GX I];rfl
  rw[GX h1,Ia I];rfl
 simp only[aDo,if_true,O7,if_false];by_cases h1:g.line<Zk g p;.rw[Ia h1,GX I];rfl
 rw[GX h1,Ia I];rfl
theorem Facing.strict(c:List Nd)(p:Pt):yN k c p=yN g c p:=by unfold yN;rw[h.along,h.lo,h.hi]
theorem Facing.open_(c:List Nd)(l:List Pt):yO k c l=yO g c l:=by unfold yO;rw[h.strict,h.strict]
theorem Facing.meet(a b:Pt):aFa k a b=aFa g a b:=by unfold aFa;rw[h.up,h.line]
theorem Facing.run(path:List Pt)(m j:Nat):vJ k path m j=vJ g path m j:=by unfold vJ;rw[h.meet]
theorem Facing.cr(c:List Nd)(id:Int)(path:List Pt){m:Nat}(j:Nat)(hm:onE g (path.getD m AY)=false):qF k c id path m j=(qF g c id path m j).map afA:=by
 unfold qF;rw[h.run,h.open_,h.along,h.inner hm];cases yO g c<|vJ g path m j;.rfl
 cases innerS g<|path.getD m AY;.rfl
 rfl
theorem Facing.at_(c:List Nd)(id:Int)(path:List Pt)(j:Nat):IZ k c id path j=((IZ g c id path j).1,(IZ g c id path j).2.map afA):=by induction j with|zero=>rfl|succ j s=>
  cases ho:onE g<|path.getD j AY;case true=>rw[akE ho,akE<|by rw[h.on];exact ho,s]
  have o:onE k (path.getD j AY)=false:=by rw[h.on];exact ho
  obtain⟨M,T,K,-⟩:=au4 g c id path j;obtain⟨L,C⟩:=BM (IZ g c id path j).2;by_cases hm:0<=(IZ g c id path j).1;case neg=>have e:IZ g c id path j=(-1,L):=Prod.ext (by show(IZ g c id path j).1=-1;omega) C;rw[e]at s;rw[akF ho e,akF o s]
  have h3:=K hm;obtain⟨m,z⟩:∃m:Nat,(m:Int)=(IZ g c id path j).1:=⟨(IZ g c id path j).1.toNat,I⟩;have e:IZ g c id path j=((m:Int),L):=Prod.ext z.symm C;rw[<-z,aDt]at h3;rw[e]at s;by_cases hi:innerS g (path.getD m AY)=innerS g (path.getD j AY);.rw[akG ho e hi,akG o s<|by rw[h.inner h3,h.inner ho,hi]]
  .rw[akH ho e hi,akH o s<|by rw[h.inner h3,h.inner ho];intro e;exact hi<|by revert e;cases innerS g<|path.getD m AY<;>cases innerS g<|path.getD j AY<;>simp,h.cr c id path j h3];simp
end
def JO(l:List Int)(n:Int):List Int:=if l.any λy=>decide<|y=n then l else l.takeWhile (λy=>decide<|y<n)++n::l.dropWhile λy=>decide<|y<n
def O5(l:List Int):List Int:=l.foldl JO []
theorem au5{α:Type}{l:List α}{q:α->Bool}{k:Nat}(h:∀j(c:j<l.length),j<k->q l[j]=true)(o:k=l.length\/∃hk:k<l.length,q l[k]=false):l.takeWhile q=l.take k/\l.dropWhile q=l.drop k:=by induction l generalizing k with|nil=>simp|cons a l s=>cases k with
  |zero=>
   rcases o with h0|⟨hk,h0⟩;.simp at h0
   .simp only[List.getElem_cons_zero]at h0;rw[aDm,lC];simp[h0]|succ k=>have h0:=h 0 Ak I;simp only[List.getElem_cons_zero]at h0;rw[aDm,lC];simp only[h0,if_true];rw[aDs,aDr];obtain⟨z,C⟩:=s (k:=k) (λj c K=>by have h1:=h (j+1) (by simpa using c) I;simpa only[List.getElem_cons_succ]using h1) (by
    rcases o with h1|⟨hk,h1⟩;.left;simpa using h1
    right;exact⟨by simpa using hk,by simpa only[List.getElem_cons_succ]using h1⟩);rw[z,C];exact⟨rfl,rfl⟩
theorem au6(l m:List Int):O5 (l++m)=m.foldl JO (O5 l):=by unfold O5;rw[LG]
theorem akI:∀w,(Go.sizeOf 3).run prog w=.ok 1 w:=λ_=>by kernel_rfl
theorem acQ(l:List Int)(n:Int):(JO l n).length<=l.length+1:=by
 unfold JO;split;.omega
 rw[EK,Gy];have:=congrArg List.length<|aCW (p:=λy=>decide<|y<n) (l:=l);rw[EK]at this;omega
def aB3(w:World)(l:List Int)(e:Ending)(w':World):Prop:=∃A c,e=.returned (.slice A l.length c)/\AU w w'/\Ints w' (.slice A l.length c) l
theorem acR(v:Value)(l:List Int)(n:Int)(w:World)(h:Ints w v l)(hl:l.length<=1000000):Calls prog 107 #[v,.int .i64 n] w<|aB3 w<|JO l n:=by
 have je:=V λW(hW:AU w W)=>acL v l n W<|h.mono hW;obtain⟨A,c,rfl,hn,hc,hR⟩:=h;have HC:=V<|show Ints w (.slice A l.length c) l from⟨A,c,rfl,hn,hc,hR⟩;unfold maxLen at hc;have HR:=V hR;clear hR;cases s:l.any λy=>decide<|y=n;case true=>
  have hw:JO l n=l:=by unfold JO;rw[AZ s]
  rw[hw];rw[s]at je;clear hw s;go_enter func107,ntmps107;go_wp2_with fail;refine(je.1 _<|bR w).mono ?_;rintro e w1⟨rfl,hb1⟩;go_wp2;go_ret;exact⟨A,c,rfl,hb1,HC.1.mono hb1⟩
 have hw:JO l n=l.takeWhile (λy=>decide<|y<n)++n::l.dropWhile λy=>decide<|y<n:=by unfold JO;rw[AX<|by rw[s];simp]
 obtain⟨q,hq⟩:=BM<|JO l n;rw[hq]at hw⊢;rw[s]at je;have Hq:=V hw;clear hq hw s;go_enter func107,ntmps107;go_wp2_with fail;refine(je.1 _<|bR w).mono ?_;rintro e W0⟨rfl,hb0⟩;have HB0:=V hb0;clear hb0;go_wp2_with fail;go_loopw[5](λu wr=>∃k:Nat,k<=l.length/\u=.int .i64 k/\AU W0 wr/\∀j(hj:j<l.length),j<k->decide (l[j]<n)=true)λu _=>l.length-(intOf u).toNat;case atStart=>exact⟨0,C9 _,rfl,bR W0,λ_ _ h=>I⟩
 obtain⟨k,hk,rfl,hb,hno⟩:=hrel;have Hb:=V hb;have Hno:=V hno;clear hb hno;have q1:0<=(k:Int):=I;by_cases hgo:∃hlt:k<l.length,l[k]<n;case pos=>
  obtain⟨hlt,hz⟩:=hgo;have q2:(k:Int)<l.length:=I;obtain⟨b,o,rfl,hlb,c0⟩:=(HR.1.mono<|J HB0.1 Hb.1).int hlt;have Hz:=V<|Ia hz;go_wp2;go_roundw;case rel=>exact⟨k+1,I,BH,Hb.1,all_succ (p:=λy=>decide (y<n)=true) Hno.1 hlt Hz.1⟩
  exact BJ
 have he:k=l.length\/∃hk:k<l.length,decide (l[k]<n)=false:=by
  by_cases h1:k<l.length;.right;exact⟨h1,GX λh2=>hgo ⟨h1,h2⟩⟩
  left;omega
 obtain⟨ht,hd⟩:=au5 (q:=λy=>decide<|y<n) (λj hj hjk=>Hno.1 j hj hjk) he;have U:=Hq.1;rw[ht,hd]at U;have akJ:=V U;clear U hgo ht hd;have hrun1:=anf Tryz.underlying24 akI A l.length c k hk hn;have hrun2:=afR Tryz.underlying24 akI A l.length c k hk (k:Int) rfl;have FI:=V<|show Sl w (.slice A k c) (l.take k).length<|(l.take k).flatMap DF from Sl.ang HC.1 k hk;have TQ:=V<|show Sl w (.slice (nI A c k 1) (l.length-k)<|c-k) (l.drop k).length<|(l.drop k).flatMap DF from Sl.from_ IV HC.1 k hk;have htl:(l.take k).length<=1000000:=by rw[JF];omega
 have hdl:(l.drop k).length<=1000000:=by rw[kZ];omega
 have U6:=V htl;have aCk:=V hdl;clear htl hdl;have ZK:=V<|J HB0.1 Hb.1;have vK:=V ZK.1.size;rcases he with hke|⟨hkl,hz⟩;case inl=>
  have q2:¬(k:Int)<l.length:=I;clear hke;go_upto_region 7 with(at_builtin;refine FV _ rfl (.tmp 25) (.tmp 28) _ rfl (base:=w.heap.size) J3 IV J4 rfl (Own.lit _ _ _ _ DF [] _ 0 _ rfl rfl vK.1 (DC I) rfl rfl) rfl (l2:=l.take k) (FI.1.mono<|bA ZK.1 _) aDa aDa (by have:=vK.1;simp;omega) ?_;intro v1 w1 M hg1 Ui;rw[Rj]at M;have Ko:=V M;have B1:=V<|show AU w w1 from bG (bA ZK.1 _) hg1 (λg hg=>by have h:=Dn hg;have:=vK.1;simp at h;omega);have hz1:w.heap.size<=w1.heap.size:=B1.1.size;clear M hg1 Ui);refine Pe w.heap.size w1 (.take 0 1<|.take 1 3<|.run 3 4 3<|.call 2 119<|.call 3 127<|.call 7 255<|.take 8 511<|.done) λCG QR Ae Aj hS=>?_;iterate 5 refine Ah ?_
  refine BP ?_;clear hS;intro K hK AQ;go_simp;refine hK.out _ _ (Gs I AQ.out _) λhS=>?_;clear hK K AQ;try simp only[pu]
  refine BP ?_;clear hS;intro K hK AQ;refine Ir (.tmp 30) (.tmp 32) _ rfl (base:=w.heap.size) J3 IV J4 rfl (Own.alloc (Ko.1.keep<|bD<|bR w1) _) rfl (l2:=[n]) (Sl.lit (n:=1) (AO.made rfl _ _) rfl<|DC I) xQ xQ D8 ?_;intro v2 T ho2 hg2 Vq;have z:Below w.heap.size w1 T:=Below.grown (Below.alloc (Below.drew<|Below.refl _ _) D8 _) hg2 D8 λg hg=>(Ko.1.lt g hg).1;have hS:Fh w.heap.size w1 T:=z;have HB2:=V z;have EZ:=V ho2;have hz2:w.heap.size<=T.heap.size:=Du hz1 z.size;clear ho2 hg2 Vq z;clear AQ;refine hK.out _ _ hS λ_=>?_;clear hK K;try simp only[pu]
  refine BP ?_;clear hS;intro K hK AQ;refine Ir (.tmp 33) (.tmp 36) _ rfl (base:=w.heap.size) J3 IV J4 rfl EZ.1 rfl (l2:=l.drop k) (TQ.1.mono<|B1.1.trans HB2.1) aDW aDW hz2 ?_;intro v3 wr3 C hg3 Kr;rw[Jv,List.singleton_append,<-akJ.1]at C;have hS:Fh w.heap.size w1 wr3:=Below.grown HB2.1 hg3 hz2 λg hg=>(EZ.1.lt g hg).1;obtain⟨A3,c3,hv3,-⟩:=Own.Il C;subst hv3;have Eo:=V C;clear C hg3 Kr;clear AQ;refine hK.out _ _ hS λ_=>?_;clear hK K;try simp only[pu]
  refine Ah ?_;refine L9 ?_;clear hS Aj Ae;intro hB;go_wp2;go_ret;exact⟨A3,c3,rfl,B1.1.trans hB,Eo.1.sl⟩
 have q2:(k:Int)<l.length:=I;obtain⟨b,o,rfl,hlb,c0⟩:=(HR.1.mono ZK.1).int hkl;have q3:¬l[k]<n:=by simpa using hz
 clear hz;go_upto_region 7 with(at_builtin;refine FV _ rfl (.tmp 25) (.tmp 28) _ rfl (base:=w.heap.size) J3 IV J4 rfl (Own.lit _ _ _ _ DF [] _ 0 _ rfl rfl vK.1 (DC I) rfl rfl) rfl (l2:=l.take k) (FI.1.mono<|bA ZK.1 _) aDa aDa (by have:=vK.1;simp;omega) ?_;intro v1 w1 M hg1 Ui;rw[Rj]at M;have Ko:=V M;have B1:=V<|show AU w w1 from bG (bA ZK.1 _) hg1 (λg hg=>by have h:=Dn hg;have:=vK.1;simp at h;omega);have hz1:w.heap.size<=w1.heap.size:=B1.1.size;clear M hg1 Ui);refine Pe w.heap.size w1 (.take 0 1<|.take 1 3<|.run 3 4 3<|.call 2 119<|.call 3 127<|.call 7 255<|.take 8 511<|.done) λCG QR Ae Aj hS=>?_;iterate 5 refine Ah ?_
 refine BP ?_;clear hS;intro K hK AQ;go_simp;refine hK.out _ _ (Gs I AQ.out _) λhS=>?_;clear hK K AQ;try simp only[pu]
 refine BP ?_;clear hS;intro K hK AQ;refine Ir (.tmp 30) (.tmp 32) _ rfl (base:=w.heap.size) J3 IV J4 rfl (Own.alloc (Ko.1.keep<|bD<|bR w1) _) rfl (l2:=[n]) (Sl.lit (n:=1) (AO.made rfl _ _) rfl<|DC I) xQ xQ D8 ?_;intro v2 T ho2 hg2 Vq;have z:Below w.heap.size w1 T:=Below.grown (Below.alloc (Below.drew<|Below.refl _ _) D8 _) hg2 D8 λg hg=>(Ko.1.lt g hg).1;have hS:Fh w.heap.size w1 T:=z;have HB2:=V z;have EZ:=V ho2;have hz2:w.heap.size<=T.heap.size:=Du hz1 z.size;clear ho2 hg2 Vq z;clear AQ;refine hK.out _ _ hS λ_=>?_;clear hK K;try simp only[pu]
 refine BP ?_;clear hS;intro K hK AQ;refine Ir (.tmp 33) (.tmp 36) _ rfl (base:=w.heap.size) J3 IV J4 rfl EZ.1 rfl (l2:=l.drop k) (TQ.1.mono<|B1.1.trans HB2.1) aDW aDW hz2 ?_;intro v3 wr3 C hg3 Kr;rw[Jv,List.singleton_append,<-akJ.1]at C;have hS:Fh w.heap.size w1 wr3:=Below.grown HB2.1 hg3 hz2 λg hg=>(EZ.1.lt g hg).1;obtain⟨A3,c3,hv3,-⟩:=Own.Il C;subst hv3;have Eo:=V C;clear C hg3 Kr;clear AQ;refine hK.out _ _ hS λ_=>?_;clear hK K;try simp only[pu]
 refine Ah ?_;refine L9 ?_;clear hS Aj Ae;intro hB;go_wp2;go_ret;exact⟨A3,c3,rfl,B1.1.trans hB,Eo.1.sl⟩
theorem akK(v:Value)(l:List Int)(w:World)(h:Ints w v l)(hl:l.length<=100000):Calls prog 45 #[v] w<|aB3 w<|O5 l:=by
 have HW:=V @acR;obtain⟨A,c,rfl,hn,hc,hR⟩:=h;unfold maxLen at hc;have HR:=V hR;clear hR;go_enter func45,ntmps45;go_wp2_with fail;go_loopw[3,4](λs u wr=>∃(k:Nat)(m:List Int),k<=l.length/\u=.int .i64 k/\AU w wr/\O5 (l.take k)=m/\m.length<=k/\Ints wr s m)λ_ u _=>l.length-(intOf u).toNat;case atStart=>exact⟨0,[],C9 _,rfl,bA (bR w) _,rfl,Dh _,Sl.lit (n:=0) (AO.made rfl _ _) rfl<|DC I⟩
 obtain⟨k,m,hk,rfl,hb,hm,hml,hs⟩:=hrel;obtain⟨M,Hm,Hs⟩:=CB hb hm hs;obtain⟨As,cs,rfl,-⟩:=hs;clear hb hm;by_cases hlt:k<l.length;case neg=>have T:=Hm.1;rw[Ip I]at T;have HF:=V T;clear T;go_wp2;go_ret;rw[HF.1];exact⟨As,cs,rfl,M.1,Hs.1⟩
 obtain⟨b,o,rfl,hlb,c0⟩:=(HR.1.mono M.1).int hlt;have TW:=HW.1 (.slice As m.length cs) m l[k] wr Hs.1 I;have j:O5 (l.take<|k+1)=JO m l[k]:=by rw[Eu hlt,au6,Hm.1];rfl
 have Ce:=V j;have VE:=V TW;have z:(JO m l[k]).length<=k+1:=by have:=acQ m l[k];omega
 have U:=V z;clear TW j z;go_wp2_with fail;refine VE.1.mono ?_;rintro e w1⟨A1,c1,rfl,C,K⟩;have B1:=V<|J M.1 C;have S1:=V K;clear C K;go_wp2;go_roundw;case rel=>exact⟨k+1,_,I,BH,B1.1,Ce.1,U.1,S1.1⟩
 exact BJ
theorem akL(v u:Value)(l m:List Int)(w:World)(h:Ints w v l)(h':Ints w u m):Calls prog 73 #[v,u] w λe w'=>e=.returned (.bool<|decide<|l=m)/\AU w w':=by
 obtain⟨A,c,rfl,hn,hc,hR⟩:=h;obtain⟨A',c',rfl,hn',hc',z⟩:=h';unfold maxLen at hc hc';by_cases hlen:l.length=m.length;case neg=>
  have hf:=V<|GX<|λe:l=m=>hlen<|congrArg List.length e;have C:((l.length:Int)!=(m.length:Int))=true:=by rw[bne_iff_ne];omega
  have K:(l.length !=m.length)=true:=by rw[bne_iff_ne];omega
  clear hlen;go_enter func73,ntmps73;go_wp2;go_ret;exact⟨Cm hf.1.symm,bR w⟩
 have C:((l.length:Int)!=(m.length:Int))=false:=by simp[hlen]
 have K:(l.length !=m.length)=false:=by simp[hlen]
 have Hlen:=V hlen;clear hlen;go_enter func73,ntmps73;go_wp2_with fail;go_loopw[5](λi wr=>∃k:Nat,k<=l.length/\i=.int .i64 k/\AU w wr/\∀j(hj:j<l.length)(M:j<m.length),j<k->l[j]=m[j])λi _=>l.length-(intOf i).toNat;case atStart=>exact⟨0,C9 _,rfl,bR w,λj _ _ h=>I⟩
 obtain⟨k,hk,rfl,hb,T⟩:=hrel;have U:=V hb;have Hno:=V T;clear hb T C K;by_cases hlt:k<l.length
 .have s:k<m.length:=by have:=Hlen.1;omega
  obtain⟨b,o,rfl,hlb,c0⟩:=(hR.mono U.1).int hlt;obtain⟨b',o',rfl,Po,c0q⟩:=(z.mono U.1).int s;clear hR z;have q1:0<=(k:Int):=I;have q2:(k:Int)<l.length:=I;have q3:(k:Int)<m.length:=I;by_cases he:l[k]=m[k]
  .have hd:(l[k]!=m[k])=false:=by simpa using he
   have He:=V he;clear he;go_upto_region 6 with fail;refine CZ wr (.run 9 0 0<|.done) λCG QR Ae Aj hS=>?_;iterate 9 refine Ah ?_
   refine CX ?_;clear hS Aj Ae;intro hB;have Bw:AU w wr.drew:=J U.1 hB;clear hB;go_wp2;go_roundw;case rel=>exact⟨k+1,I,BH,Bw,λj hj M hjk=>if e:j<k then Hno.1 j hj M e else by have:j=k:=I;subst this;exact He.1⟩
   exact BJ
  have hd:(l[k]!=m[k])=true:=by simpa using he
  have He:=V he;clear he;go_upto_region 6 with fail;refine CZ wr (.run 9 0 0<|.done) λCG QR Ae Aj hS=>?_;iterate 9 refine Ah ?_
  refine CX ?_;clear hS Aj Ae;intro hB;have Bw:AU w wr.drew:=J U.1 hB;clear hB;go_wp2;go_ret;exact⟨Cm (GX<|aoS k hlt s He.1).symm,Bw⟩
 have hf:=V<|Ia<|aoR Hlen.1 λj hj=>Hno.1 j hj (by have:=Hlen.1;omega) I;go_wp2;go_ret;exact⟨Cm hf.1.symm,U.1⟩
def NV(w:World)(b:Nat)(S:List Int):Prop:=∃D:DataW Unit,w.ownsMap prog 3 ibR b S.length D/\Maps.size D=S.length/\(∀id,D.atKey (.int .i64 id) (WB false)=WB (decide<|id∈S))/\∀id,Maps.has D (.int .i64 id)=decide (id∈S)
theorem NV.kept{w w':World}{b:Nat}{S:List Int}(h:NV w b S){row:Option Nat}(c:w.grownBy w' row)(j:some b≠row):NV w' b S:=by obtain⟨D,h1,h2⟩:=h;exact⟨D,h1.kept c j,h2⟩
theorem NV.keep{w w':World}{b:Nat}{S:List Int}(h:NV w b S)(hb:AU w w'):NV w' b S:=h.kept (row:=none) ⟨hb.os,hb.tape,hb.output,hb.size,λi hi _=>hb.block i hi⟩ Ak
theorem NV.lt{w:World}{b:Nat}{S:List Int}(h:NV w b S):b<w.heap.size:=by obtain⟨D,h1,h2⟩:=h;exact h1.lt
theorem NV.made(w:World):NV (w.alloc<|.map #[] 0) w.heap.size []:=⟨.map [],World.ownsMap_made _ _ _ _,rfl,λ_=>rfl,λ_=>rfl⟩
theorem NV.look{w:World}{b:Nat}{S:List Int}(h:NV w b S)(id:Int)(hid:Eb id):(Instr.lookup 83 (.map<|some b) (.int .i64 id) false).run prog w=.ok (.bool<|decide<|id∈S) w:=by obtain⟨D,h1,-,h2,-⟩:=h;obtain⟨v,ps,c,hv⟩:=h1.lookup Xr Tryz.underlying83 (aiH w) (zd:=WB false) (zp:=[]) rfl<|Maps.keyOf_int_mk Tryz.underlying3 hid;rw[h2]at hv;rw[c,aiG hv]
theorem NV.len{w:World}{b:Nat}{S:List Int}(h:NV w b S)(c:TypeId):(Builtin.len_ #[83] c #[.map<|some b]).run prog w=.ok (.int .i64 S.length) w:=by obtain⟨D,h1,h2,-⟩:=h;rw[h1.len Tryz.underlying83 c,h2]
theorem NV.upd{w:World}{b:Nat}{S:List Int}(h:NV w b S)(hn:S.length<4294967296)(id:Int)(hid:Eb id)(o:id∉S):∃w',(Instr.mapUpdate 83 (.map<|some b) (.int .i64 id)<|.bool true).run prog w=.ok () w'/\NV w' b (S++[id])/\w.grownBy w' (some b):=by
 obtain⟨D,h1,h2,h3,j⟩:=h;have c:=h1.tidy Xr;obtain⟨w',s,ho,z⟩:=h1.update Xr Tryz.underlying83 xY (Maps.keyOf_int_mk Tryz.underlying3 hid) (val:=.bool true) (d:=WB true) (ps:=[]) rfl;refine⟨w',s,⟨_,by rw[EK];exact ho,?_,λi=>?_,λi=>?_⟩,z⟩;.rw[Maps.size_put c,j,GX o,h2,EK];rfl
 .by_cases e:i=id;.subst e;rw[Maps.atKey_put_same c.isMap<|by trivial,Ia Ak]
  rw[Maps.atKey_put_other λh=>e<|by injection h,h3];congr 1;simp[e]
 by_cases e:i=id;.subst e;rw[Maps.has_put_same c.isMap<|by trivial,Ia Ak]
 rw[Maps.has_put_other λh=>e<|by injection h,j];simp[e]
theorem ae1{w:World}{j:Nat}{S:List Int}(h:NV w j S){g:Nat}{t:TypeId}{cs:Array Value}(o:AO w g t cs):g≠j:=by rintro rfl;obtain⟨D,h1,-⟩:=h;obtain⟨s,c,h2,-⟩:=h1;unfold AO at o;rw[o]at h2;cases h2
theorem akM{w:World}{j:Nat}{S:List Int}(h:NV w j S){base:Nat}{e:TypeId}{size:Nat}{α:Type}{o:α->List Value}{v:Value}{l:List α}(ho:Own w base e size o v l):v.ownBlock≠some j:=by
 rcases ho.2 with⟨rfl,_⟩|⟨g,s,c,rfl,_,z,_⟩;.simp[Value.ownBlock]
 intro e';exact ae1 h (cs:=c) (g:=g) z xO
