import Derived.Test.YtialfdomhoojiaaGreatGB
import Derived.Test.YtialfdomhoojiaaGreatJ14
import Derived.Test.YtialfdomhoojiaaGreatJ01
import Derived.Test.YtialfdomhoojiaaGreatJ05
import Derived.Test.YtialfdomhoojiaaGreatJ02
set_option linter.unusedSimpArgs false
set_option linter.unusedVariables false
namespace Go.Proofs.YtialfdomhoojiaaGreat
structure Cr where
 pos:Int
 arc:Int
 out:Int
theorem Cr.ext_iff' {a b:Cr}:a=b↔a.pos=b.pos/\a.arc=b.arc/\a.out=b.out:=by cases a;cases b;simp
instance:DecidableEq Cr:=fun a b =>
 if h:a.pos=b.pos/\a.arc=b.arc/\a.out=b.out then isTrue (by cases a;cases b;simp_all) else isFalse (by rintro rfl;simp at h)
def Zb (c:Cr):Cr:=⟨c.pos,c.arc,if c.out=0 then 1 else 0⟩
open Go.RowKit
structure Pc where
 arc:Int
 path:List Pt
 enter:Int
 leave:Int
structure EL where
 Qp:Int
 pieces:List Pc
 nodes:List Nd
structure Se where
 at_:Pt
 width:Int
 height:Int
 cols:Int
 rows:Int
def Zc (c:Cr):List Value:=[.int .i64 c.pos,.int .i64 c.arc,.int .i64 c.out]
def Zd (x:Pc×Value):List Value:=[.int .i64 x.1.arc,x.2,.int .i64 x.1.enter,.int .i64 x.1.leave]
def Crs (w:World) (v:Value) (l:List Cr):Prop:=Sl w v l.length (l.flatMap Zc)
def Paths (w:World) (l:List (Pc×Value)):Prop:=∀ k (hk:k<l.length),bU w l[k].2 l[k].1.path
def KR (w:World) (v:Value) (l:List (Pc×Value)):Prop:=Sl w v l.length (l.flatMap Zd)/\Paths w l
def KT (w:World) (v:Value) (x:EL):Prop :=
 ∃ vp vn pl,v=.agg #[.int .i64 x.Qp,vp,vn]/\x.pieces=pl.map (·.1)/\KR w vp pl/\sZ w vn x.nodes
def prC (x:EL×Value×Value):List Value:=[.int .i64 x.1.Qp,x.2.1,x.2.2]
def Qq (w:World) (v:Value) (l:List (EL×Value×Value)):Prop :=
 Sl w v l.length (l.flatMap prC)/\∀ k (hk:k<l.length),KT w (.agg #[.int .i64 l[k].1.Qp,l[k].2.1,l[k].2.2]) l[k].1
section
variable {w w':World} {v:Value}
theorem Crs.mono {l:List Cr} (h:Crs w v l) (hb:Below w.heap.size w w'):Crs w' v l:=Sl.mono h hb
theorem Paths.mono {l:List (Pc×Value)} (h:Paths w l) (hb:Below w.heap.size w w'):Paths w' l:=fun k hk=>(h k hk).mono hb
theorem KR.mono {l:List (Pc×Value)} (h:KR w v l) (hb:Below w.heap.size w w'):KR w' v l:=⟨Sl.mono h.1 hb,h.2.mono hb⟩
theorem KT.mono {x:EL} (h:KT w v x) (hb:Below w.heap.size w w'):KT w' v x:=by
 obtain ⟨vp,vn,pl,hv,hp,h1,h2⟩:=h;exact ⟨vp,vn,pl,hv,hp,h1.mono hb,h2.mono hb⟩
theorem Qq.mono {l:List (EL×Value×Value)} (h:Qq w v l) (hb:Below w.heap.size w w'):Qq w' v l:=⟨Sl.mono h.1 hb,fun k hk=>(h.2 k hk).mono hb⟩
end
section
variable {w:World} {A:Option Addr}
theorem Row.cr {l:List Cr} (h:Row w A (l.flatMap Zc)) {k:Nat} (hk:k<l.length) :
  ∃ b o,A=some ⟨b,o,none⟩/\b<w.heap.size/\w.cell? ⟨b,o+k*3,none⟩=some (.int .i64 l[k].pos)/\w.cell? ⟨b,o+k*3+1,none⟩=some (.int .i64 l[k].arc)/\w.cell? ⟨b,o+k*3+2,none⟩=some (.int .i64 l[k].out):=by
 obtain ⟨b,o,hA,hb,hc⟩:=h.at_ (n:=3) (fun _=>rfl) hk (by omega);exact ⟨b,o,hA,hb,hc 0 _ rfl,hc 1 _ rfl,hc 2 _ rfl⟩
theorem Row.pc {l:List (Pc×Value)} (h:Row w A (l.flatMap Zd)) {k:Nat} (hk:k<l.length) :
  ∃ b o,A=some ⟨b,o,none⟩/\b<w.heap.size/\w.cell? ⟨b,o+k*4,none⟩=some (.int .i64 l[k].1.arc)/\w.cell? ⟨b,o+k*4+1,none⟩=some l[k].2/\w.cell? ⟨b,o+k*4+2,none⟩=some (.int .i64 l[k].1.enter)/\w.cell? ⟨b,o+k*4+3,none⟩=some (.int .i64 l[k].1.leave):=by
 obtain ⟨b,o,hA,hb,hc⟩:=h.at_ (n:=4) (fun _=>rfl) hk (by omega);exact ⟨b,o,hA,hb,hc 0 _ rfl,hc 1 _ rfl,hc 2 _ rfl,hc 3 _ rfl⟩
end
def uI (n:Int):Prop:=-1152921504606846976<=n/\n<=1152921504606846976
theorem af9 {a b:Int} (h:uI a) (hb:b≠0):uI (a.tdiv b)/\uI (a.tmod b):=by
 have h1:(a.tdiv b).natAbs<=a.natAbs:=by rw [Int.natAbs_tdiv];exact Nat.div_le_self _ _
 have h2:(a.tmod b).natAbs<=a.natAbs:=by rw [Int.natAbs_tmod];exact Nat.mod_le _ _
 unfold uI at *;omega
theorem Ze {a b:Int} (h:uI a) (hb:b≠0) (hb':uI b):uI (a-kY a b*b)/\EK (a-kY a b*b)<=EK b/\-2305843009213693952<=kY a b*b/\kY a b*b<=2305843009213693952/\-1152921504606846977<=kY a b/\kY a b<=1152921504606846976:=by
 obtain ⟨f1,f2⟩:=afV (a:=a) hb;have hq:-1152921504606846977<=kY a b/\kY a b<=1152921504606846976:=by
  have h1:=(af9 h hb).1;unfold uI at h1;unfold kY;split<;>omega
 unfold uI at *;unfold EK;generalize kY a b=q at *;generalize q*b=t at *;rcases Int.lt_or_gt_of_ne hb with h1 | h1
 ·have:=f2 h1
  refine ⟨by omega,?_,by omega,by omega,hq.1,hq.2⟩;rw [if_pos h1];split<;>omega
 ·have:=f1 h1
  refine ⟨by omega,?_,by omega,by omega,hq.1,hq.2⟩;rw [if_neg (by omega)];split<;>omega
structure Ed where
 side:Int
 G9:Bool
 line:Int
 lo:Int
 hi:Int
def KU (g:Ed):Bool:=decide (g.side=1) || decide (g.side=2)
def EM (g:Ed) (p:Pt):Int:=if g.G9 then p.y else p.x
def zD (g:Ed) (p:Pt):Int:=if g.G9 then p.x else p.y
def onE (g:Ed) (p:Pt):Bool:=decide (zD g p=g.line)
def innerS (g:Ed) (p:Pt):Bool:=if KU g then decide (g.line<zD g p) else decide (zD g p<g.line)
def Hu (g:Ed) (ns:List Nd) (p:Pt):Bool:=!ns.any (fun n=>decide (n.pt=p)) && (decide (g.lo<EM g p) && decide (EM g p<g.hi))
def aga (l:List Pt):Pt:=l.getD 0 ⟨0,0⟩
def Zf (l:List Pt):Pt:=l.getD (l.length-1) ⟨0,0⟩
def H6 (g:Ed) (ns:List Nd) (run:List Pt):Bool:=decide (0<run.length) && (Hu g ns (aga run) && Hu g ns (Zf run))
theorem zC.facts {a b:Pt} {x:Int} (h:zC a b x):uI ((b.y-a.y)*(x-a.x))/\b.x-a.x≠0/\uI (b.x-a.x) /\
  (IntKind.i64.wrap (b.y-a.y)=b.y-a.y/\IntKind.i64.wrap (x-a.x)=x-a.x/\IntKind.i64.wrap ((b.y-a.y)*(x-a.x))=(b.y-a.y)*(x-a.x)/\IntKind.i64.wrap (b.x-a.x)=b.x-a.x):=by
 obtain ⟨⟨a1,a2⟩,⟨b1,b2⟩,h1,h2⟩:=h;unfold Qj at h2;have hm:=afW (u:=b.y-a.y) (v:=x-a.x) (m:=2097152) (n:=2097152) (by omega) (by omega);refine ⟨⟨by omega,by omega⟩,by omega,⟨by omega,by omega⟩,IntWalk.i64_in _ (by omega),IntWalk.i64_in _ (by omega),IntWalk.i64_in _ (by omega),IntWalk.i64_in _ (by omega)⟩
theorem zC.sum {a b:Pt} {x:Int} (h:zC a b x):IntKind.i64.wrap (BP a b x)=BP a b x:=by
 obtain ⟨h1,h2,h3,-⟩:=h.facts;obtain ⟨r1,r2,r3,r4,r5,r6⟩:=Ze h1 h2 h3;refine IntWalk.i64_in _ ?_;unfold BP Qi;have:=h.pa.2
 split<;>omega
def KW (g:Ed) (a b:Pt):Pt:=if g.G9 then ⟨g.line,BP a b g.line⟩ else ⟨BP (YU a) (YU b) g.line,g.line⟩
set_option maxRecDepth 100000 in
set_option maxHeartbeats 2000000 in
theorem Zg (b:Bx) (p:Pt) (w:World):Calls Tryz.prog 208 #[Fh b,aF p] w fun e w'=>e=.returned (.bool (inB b p))/\Below w.heap.size w w':=by
 unfold Fh aF;obtain ⟨q,hq⟩:∃ q,inB b p=q:=⟨_,rfl⟩;rw [hq];unfold inB at hq;have Hq:=Lib.hid hq;clear hq;go_enter Tryz.func208,Tryz.ntmps208;by_cases h1:b.x0<=p.x
 case neg =>
  go_wp2_with fail;go_ret;exact ⟨aT (by rw [<- Hq.out];exact (decide_eq_false (by omega)).symm),bA (bA (bR w) _) _⟩
 by_cases h2:p.x<=b.x1
 case neg =>
  go_wp2_with fail;go_ret;exact ⟨aT (by rw [<- Hq.out];exact (decide_eq_false (by omega)).symm),bA (bA (bR w) _) _⟩
 by_cases h3:b.y0<=p.y
 case neg =>
  go_wp2_with fail;go_ret;exact ⟨aT (by rw [<- Hq.out];exact (decide_eq_false (by omega)).symm),bA (bA (bR w) _) _⟩
 by_cases h4:p.y<=b.y1
 case neg =>
  go_wp2_with fail;go_ret;exact ⟨aT (by rw [<- Hq.out];exact (decide_eq_false (by omega)).symm),bA (bA (bR w) _) _⟩
 go_wp2_with fail;go_ret;exact ⟨aT (by rw [<- Hq.out];exact (decide_eq_true (by omega)).symm),bA (bA (bR w) _) _⟩
end Go.Proofs.YtialfdomhoojiaaGreat
