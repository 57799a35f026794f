import Derived.Test.YtialfdomhoojiaaGreatJ24
import Derived.Test.YtialfdomhoojiaaGreatGB
import Derived.Test.YtialfdomhoojiaaGreatJ07
import Derived.Deep.CutBlock
import Derived.Test.YtialfdomhoojiaaGreatJ01
import Derived.Maps.OwnSet
import Derived.Test.YtialfdomhoojiaaGreatJ15
set_option linter.unusedSimpArgs false
set_option linter.unusedVariables false
namespace Go.Proofs.YtialfdomhoojiaaGreat
open Go.RowKit

def rngI (n lo hi:Int):Bool:=decide (lo≤n) && decide (n≤hi)
theorem rngI_iff (n lo hi:Int):rngI n lo hi=true↔lo≤n∧n≤hi:=by simp [rngI]
def gridPt (p:Pt):Bool:=rngI p.x (-1048576) 1048576 && rngI p.y (-1048576) 1048576
def seFar (s:Se):Pt:=⟨s.at_.x+s.cols*s.width,s.at_.y+s.rows*s.height⟩
def seIn (s:Se):Bool:=gridPt s.at_ && (rngI s.width 1 65536 && (rngI s.height 1 65536 && (rngI s.cols 1 16 && rngI s.rows 1 16)))
def seOk (s:Se):Bool:=seIn s && gridPt (seFar s)
def thereS (s:Se) (n:Int):Bool:=decide (1≤n) && decide (n≤s.cols*s.rows)
def colS (s:Se) (n:Int):Int:=(n-1).tmod s.cols
def rowS (s:Se) (n:Int):Int:=(n-1).tdiv s.cols
structure SeBd (s:Se):Prop where
 x:-1048576≤s.at_.x∧s.at_.x≤1048576
 y:-1048576≤s.at_.y∧s.at_.y≤1048576
 w:1≤s.width∧s.width≤65536
 h:1≤s.height∧s.height≤65536
 c:1≤s.cols∧s.cols≤16
 r:1≤s.rows∧s.rows≤16
theorem seIn_bd {s:Se} (h:seIn s=true):SeBd s:=by
 unfold seIn gridPt at h
 simp only [Bool.and_eq_true,rngI_iff] at h
 obtain ⟨⟨h1,h2⟩,h3,h4,h5,h6⟩:=h
 exact ⟨h1,h2,h3,h4,h5,h6⟩
theorem seOk_bd {s:Se} (h:seOk s=true):SeBd s:=by
 unfold seOk at h
 rw [Bool.and_eq_true] at h
 exact seIn_bd h.1

end Go.Proofs.YtialfdomhoojiaaGreat
namespace Go.Proofs.YtialfdomhoojiaaGreat
open Go.RowKit

structure InS (s:Se) (n:Int):Prop where
 ok:seOk s=true
 lo:1≤n
 hi:n≤s.cols*s.rows
theorem InS.of {s:Se} {n:Int} (h1:seOk s=true) (h2:thereS s n=true):InS s n:=by
 unfold thereS at h2
 simp only [Bool.and_eq_true,decide_eq_true_eq] at h2
 exact ⟨h1,h2.1,h2.2⟩
theorem InS.bd {s:Se} {n:Int} (h:InS s n):0≤colS s n∧colS s n<s.cols∧0≤rowS s n∧rowS s n<s.rows∧n=rowS s n*s.cols+colS s n+1:=by
 have hb:=seOk_bd h.ok
 have h1:=h.lo;have h2:=h.hi
 have hc:=hb.c
 unfold colS rowS
 rw [Int.tmod_eq_emod_of_nonneg (by omega),Int.tdiv_eq_ediv_of_nonneg (by omega)]
 have e1:=Int.emod_nonneg (n-1) (show s.cols≠0 by omega)
 have e2:=Int.emod_lt_of_pos (n-1) (show 0<s.cols by omega)
 have e3:=Int.mul_ediv_add_emod (n-1) s.cols
 have e4:0≤(n-1) / s.cols:=Int.ediv_nonneg (by omega) (by omega)
 refine ⟨e1,e2,e4,?_,?_⟩
 ·
  rcases Int.lt_or_le ((n-1) / s.cols) s.rows with h3 | h3
  · exact h3
  ·
   have:=Int.mul_le_mul_of_nonneg_left h3 (show 0≤s.cols by omega)
   omega
 · rw [Int.mul_comm];omega

theorem results_tmp3 {fn:Func} {t u v:Tmp} (h:fn.results=#[.tmp t,.tmp u,.tmp v]) (tmps:Array Value) (P:Program) (w:World):(results fn tmps).run P w=.ok (.tuple #[tmps.getD t undef,tmps.getD u undef,tmps.getD v undef]) w:=by
 simp [results,h]
end Go.Proofs.YtialfdomhoojiaaGreat
namespace Go.Proofs.YtialfdomhoojiaaGreat
open Go.RowKit

def runS (g:Ed) (path:List Pt) (m k:Nat):List Pt:=if k=m+1 then [meetP g (path.getD m pt0) (path.getD k pt0)] else (path.drop (m+1)).take (k-(m+1))
def expCr (g:Ed) (ns:List Nd) (id:Int) (path:List Pt) (m k:Nat):List Cr :=
 if openS g ns (runS g path m k)=true then [⟨alongS g (lastP (runS g path m k)),id,if innerS g (path.getD m pt0) then 1 else 0⟩] else []
def expAt (g:Ed) (ns:List Nd) (id:Int) (path:List Pt):Nat→Int×List Cr
 | 0=>(-1,[])
 | k+1 =>
  if onE g (path.getD k pt0)=true then expAt g ns id path k
  else ((k:Int),(expAt g ns id path k).2++(if 0≤(expAt g ns id path k).1∧innerS g (path.getD (expAt g ns id path k).1.toNat pt0)≠innerS g (path.getD k pt0) then expCr g ns id path (expAt g ns id path k).1.toNat k else []))
theorem expAt_bd (g:Ed) (ns:List Nd) (id:Int) (path:List Pt) (k:Nat):-1≤(expAt g ns id path k).1∧(expAt g ns id path k).1<k∧(0≤(expAt g ns id path k).1→onE g (path.getD (expAt g ns id path k).1.toNat pt0)=false)∧(expAt g ns id path k).2.length≤k:=by
 induction k with
 | zero=>simp [expAt]
 | succ k ih =>
  unfold expAt
  split
  ·
   obtain ⟨h1,h2,h3,h4⟩:=ih
   exact ⟨h1,by omega,h3,by omega⟩
  ·
   rename_i hq
   obtain ⟨h1,h2,h3,h4⟩:=ih
   refine ⟨show (-1:Int)≤(k:Int) by omega,show (k:Int)<((k+1:Nat):Int) by omega,fun _=>by simp only [Int.toNat_natCast];exact Bool.eq_false_iff.2 hq,?_⟩
   show ((expAt g ns id path k).2++_).length≤k+1
   rw [List.length_append]
   have:(if 0≤(expAt g ns id path k).1∧innerS g (path.getD (expAt g ns id path k).1.toNat pt0)≠innerS g (path.getD k pt0) then expCr g ns id path (expAt g ns id path k).1.toNat k else []).length≤1:=by
    split
    · unfold expCr;split<;>simp
    · simp
   omega
theorem expAt_on {g:Ed} {ns:List Nd} {id:Int} {path:List Pt} {k:Nat} (h:onE g (path.getD k pt0)=true):expAt g ns id path (k+1)=expAt g ns id path k:=by
 rw [expAt,if_pos h]
theorem expAt_no {g:Ed} {ns:List Nd} {id:Int} {path:List Pt} {k:Nat} {L:List Cr} (h:onE g (path.getD k pt0)=false) (he:expAt g ns id path k=(-1,L)):expAt g ns id path (k+1)=((k:Int),L):=by
 rw [expAt,if_neg (by rw [h];simp),he,if_neg (by simp)]
 simp
theorem expAt_same {g:Ed} {ns:List Nd} {id:Int} {path:List Pt} {k m:Nat} {L:List Cr} (h:onE g (path.getD k pt0)=false) (he:expAt g ns id path k=((m:Int),L)) (hi:innerS g (path.getD m pt0)=innerS g (path.getD k pt0)):expAt g ns id path (k+1)=((k:Int),L):=by
 rw [expAt,if_neg (by rw [h];simp),he,if_neg]
 · simp
 ·
  simp only [Int.toNat_natCast]
  exact fun h=>h.2 hi
theorem expAt_cross {g:Ed} {ns:List Nd} {id:Int} {path:List Pt} {k m:Nat} {L:List Cr} (h:onE g (path.getD k pt0)=false) (he:expAt g ns id path k=((m:Int),L)) (hi:innerS g (path.getD m pt0)≠innerS g (path.getD k pt0)):expAt g ns id path (k+1)=((k:Int),L++expCr g ns id path m k):=by
 rw [expAt,if_neg (by rw [h];simp),he,if_pos]
 · simp
 ·
  simp only [Int.toNat_natCast]
  exact ⟨by omega,hi⟩

theorem AtX.rng {a b:Pt} {x:Int} (h:AtX a b x):wfI (atxS a b x):=by
 obtain ⟨h1,h2,h3,-⟩:=h.facts
 obtain ⟨r1,r2,r3,r4,r5,r6⟩:=floor_rest h1 h2 h3
 have:=h.pa.2
 refine wfI_of ?_ ?_<;>(unfold atxS roundS;split<;>omega)
theorem AtX.line {a b:Pt} {x:Int} (h:AtX a b x):wfI x:=by
 have h1:=h.lo
 have h2:=h.pa.1
 have h3:=h.pb.1
 unfold btwX at h1
 exact wfI_of (by omega) (by omega)
end Go.Proofs.YtialfdomhoojiaaGreat
namespace Go.Proofs.YtialfdomhoojiaaGreat
open Go.RowKit

def Rd (w:World) (g:Nat) (cs:Array Value):Prop:=g<w.heap.size∧∀ i,w.cell? ⟨g,i,none⟩=cs[i]?
theorem Rd.keep {w w':World} {g:Nat} {cs:Array Value} (h:Rd w g cs) (hb:Below w.heap.size w w'):Rd w' g cs:=⟨Nat.lt_of_lt_of_le h.1 hb.size,fun i=>by rw [hb.cell (p:=⟨g,i,none⟩) h.1];exact h.2 i⟩
def Mv (w:World):Prop:=Rd w 0 #[.int .i64 (-1),.int .i64 0,.int .i64 0,.int .i64 (-1),.int .i64 1,.int .i64 0,.int .i64 0,.int .i64 1]
theorem Mv.keep {w w':World} (h:Mv w) (hb:Below w.heap.size w w'):Mv w':=Rd.keep h hb
end Go.Proofs.YtialfdomhoojiaaGreat
namespace Go.Proofs.YtialfdomhoojiaaGreat
open Go.RowKit

structure Facing (g k:Ed):Prop where
 up:k.upright=g.upright
 line:k.line=g.line
 lo:k.lo=g.lo
 hi:k.hi=g.hi
 pos:posS k = !posS g
section
variable {g k:Ed} (h:Facing g k)
include h
theorem Facing.along (p:Pt):alongS k p=alongS g p:=by unfold alongS;rw [h.up]
theorem Facing.across (p:Pt):acrossS k p=acrossS g p:=by unfold acrossS;rw [h.up]
theorem Facing.on (p:Pt):onE k p=onE g p:=by unfold onE;rw [h.across,h.line]
theorem Facing.inner {p:Pt} (hn:onE g p=false):innerS k p = !innerS g p:=by
 unfold onE at hn
 rw [decide_eq_false_iff_not] at hn
 unfold innerS
 rw [h.pos,h.across,h.line]
 cases posS g
 ·
  simp only [Bool.not_false,if_true,Bool.false_eq_true,if_false]
  by_cases h1:g.line<acrossS g p
  · rw [decide_eq_true h1,decide_eq_false (by omega)];rfl
  · rw [decide_eq_false h1,decide_eq_true (by omega)];rfl
 ·
  simp only [Bool.not_true,if_true,Bool.false_eq_true,if_false]
  by_cases h1:g.line<acrossS g p
  · rw [decide_eq_true h1,decide_eq_false (by omega)];rfl
  · rw [decide_eq_false h1,decide_eq_true (by omega)];rfl
theorem Facing.strict (ns:List Nd) (p:Pt):strictS k ns p=strictS g ns p:=by unfold strictS;rw [h.along,h.lo,h.hi]
theorem Facing.open_ (ns:List Nd) (l:List Pt):openS k ns l=openS g ns l:=by unfold openS;rw [h.strict,h.strict]
theorem Facing.meet (a b:Pt):meetP k a b=meetP g a b:=by unfold meetP;rw [h.up,h.line]
theorem Facing.run (path:List Pt) (m j:Nat):runS k path m j=runS g path m j:=by unfold runS;rw [h.meet]
theorem Facing.cr (ns:List Nd) (id:Int) (path:List Pt) {m:Nat} (j:Nat) (hm:onE g (path.getD m pt0)=false):expCr k ns id path m j=(expCr g ns id path m j).map flipCr:=by
 unfold expCr
 rw [h.run,h.open_,h.along,h.inner hm]
 cases openS g ns (runS g path m j)
 · rfl
 ·
  cases innerS g (path.getD m pt0)
  · rfl
  · rfl
theorem Facing.at_ (ns:List Nd) (id:Int) (path:List Pt) (j:Nat):expAt k ns id path j=((expAt g ns id path j).1,(expAt g ns id path j).2.map flipCr):=by
 induction j with
 | zero=>rfl
 | succ j ih =>
  cases ho:onE g (path.getD j pt0)
  case true => rw [expAt_on ho,expAt_on (by rw [h.on];exact ho),ih]
  have ho':onE k (path.getD j pt0)=false:=by rw [h.on];exact ho
  obtain ⟨b1,b2,b3,-⟩:=expAt_bd g ns id path j
  obtain ⟨L,hL⟩:∃ L,(expAt g ns id path j).2=L:=⟨_,rfl⟩
  by_cases hm:0≤(expAt g ns id path j).1
  case neg =>
   have e:expAt g ns id path j=(-1,L):=Prod.ext (by show (expAt g ns id path j).1=-1;omega) hL
   rw [e] at ih
   rw [expAt_no ho e,expAt_no ho' ih]
  have h3:=b3 hm
  obtain ⟨m,hm'⟩:∃ m:Nat,(m:Int)=(expAt g ns id path j).1:=⟨(expAt g ns id path j).1.toNat,by omega⟩
  have e:expAt g ns id path j=((m:Int),L):=Prod.ext hm'.symm hL
  rw [← hm',Int.toNat_natCast] at h3
  rw [e] at ih
  by_cases hi:innerS g (path.getD m pt0)=innerS g (path.getD j pt0)
  · rw [expAt_same ho e hi,expAt_same ho' ih (by rw [h.inner h3,h.inner ho,hi])]
  ·
   rw [expAt_cross ho e hi,expAt_cross ho' ih (by rw [h.inner h3,h.inner ho];intro e;exact hi (by revert e;cases innerS g (path.getD m pt0)<;>cases innerS g (path.getD j pt0)<;>simp)),h.cr ns id path j h3]
   simp
end
end Go.Proofs.YtialfdomhoojiaaGreat
namespace Go.Proofs.YtialfdomhoojiaaGreat
open Go.RowKit

def withS (l:List Int) (n:Int):List Int:=if l.any (fun y=>decide (y=n)) then l else l.takeWhile (fun y=>decide (y<n))++n::l.dropWhile (fun y=>decide (y<n))
def normS (l:List Int):List Int:=l.foldl withS []

end Go.Proofs.YtialfdomhoojiaaGreat
namespace Go.Proofs.YtialfdomhoojiaaGreat
open Go.RowKit

set_option maxHeartbeats 400000 in
theorem Same04_spec (v u:Value) (l m:List Int) (w:World) (h:Ints w v l) (h':Ints w u m) :
  Calls Tryz.prog 55 #[v,u] w fun e w'=>e=.returned (.bool (decide (l=m)))∧Below w.heap.size w w':=by
 obtain ⟨A,c,rfl,hn,hc,hR⟩:=h
 obtain ⟨A',c',rfl,hn',hc',hR'⟩:=h'
 unfold maxLen at hc hc'
 by_cases hlen:l.length=m.length
 case neg =>
  have hf:=Lib.hid (decide_eq_false (fun e:l=m=>hlen (congrArg List.length e)))
  have hl1:((l.length:Int) != (m.length:Int))=true:=by rw [bne_iff_ne];omega
  have hl2:(l.length != m.length)=true:=by rw [bne_iff_ne];omega
  clear hlen
  go_enter Tryz.func55,Tryz.ntmps55
  go_wp2_with fail
  go_ret
  exact ⟨ret_bool hf.out.symm,bR w⟩
 case pos =>
 have hl1:((l.length:Int) != (m.length:Int))=false:=by simp [hlen]
 have hl2:(l.length != m.length)=false:=by simp [hlen]
 have Hlen:=Lib.hid hlen;clear hlen
 go_enter Tryz.func55,Tryz.ntmps55
 go_wp2_with fail
 go_loopw [5] (fun i wr=>∃ k:Nat,k≤l.length∧i=.int .i64 k∧Below w.heap.size w wr∧∀ j (hj:j<l.length) (hj':j<m.length),j<k→l[j]=m[j]) (fun i _=>l.length-(intOf i).toNat)
 case atStart => exact ⟨0,Nat.zero_le _,rfl,bR w,fun j _ _ h=>by omega⟩
 case round =>
  obtain ⟨k,hk,rfl,hb,hno⟩:=hrel
  have Hb:=Lib.hid hb
  have Hno:=Lib.hid hno
  clear hb hno hl1 hl2
  by_cases hlt:k<l.length
  ·
   have hlt':k<m.length:=by have:=Hlen.out;omega
   obtain ⟨b,o,rfl,hlb,c0⟩:=(hR.mono Hb.out).int hlt
   obtain ⟨b',o',rfl,hlb',c0q⟩:=(hR'.mono Hb.out).int hlt'
   have HR:=Lib.hid hR;have HR':=Lib.hid hR';clear hR hR'
   have q1:0≤(k:Int):=by omega
   have q2:(k:Int)<l.length:=by omega
   have q3:(k:Int)<m.length:=by omega
   by_cases he:l[k]=m[k]
   ·
    have hd:(l[k] != m[k])=false:=by simpa using he
    have He:=Lib.hid he;clear he
    go_upto_region 6 with fail
    refine rg_start (Since wr) (.run 9 0 0 (.done)) (by kernel_rfl) (bD (bR _)) (by kernel_rfl) (by kernel_rfl) (Nat.le_of_ble_eq_true (by kernel_rfl)) ?_
    intro opsR QR Hops HQrg hS
    iterate 9
     apply rg_p;exact Hops;exact rfl;exact hS;exact rfl
     · intro _ hqc;go_simp;try rfl
     try simp only [pu]
    refine rg_done ?_
    refine HQrg.down _ _ ?_
    have hB:Below wr.heap.size wr wr.drew:=hS
    clear hS HQrg Hops
    have Bw:Below w.heap.size w wr.drew:=bT Hb.out hB
    clear hB
    go_wp2_with fail
    go_roundw
    case rel => exact ⟨k+1,by omega,by go_num,Bw,fun j hj hj' hjk=>if e:j<k then Hno.out j hj hj' e else by
      have:j=k:=by omega
      subst this;exact He.out⟩
    case measure => simp [intOf];omega
   ·
    have hd:(l[k] != m[k])=true:=by simpa using he
    have He:=Lib.hid he;clear he
    go_upto_region 6 with fail
    refine rg_start (Since wr) (.run 9 0 0 (.done)) (by kernel_rfl) (bD (bR _)) (by kernel_rfl) (by kernel_rfl) (Nat.le_of_ble_eq_true (by kernel_rfl)) ?_
    intro opsR QR Hops HQrg hS
    iterate 9
     apply rg_p;exact Hops;exact rfl;exact hS;exact rfl
     · intro _ hqc;go_simp;try rfl
     try simp only [pu]
    refine rg_done ?_
    refine HQrg.down _ _ ?_
    have hB:Below wr.heap.size wr wr.drew:=hS
    clear hS HQrg Hops
    have Bw:Below w.heap.size w wr.drew:=bT Hb.out hB
    clear hB
    go_wp2_with fail
    go_ret
    exact ⟨ret_bool (decide_eq_false (ne_of_at k hlt hlt' He.out)).symm,Bw⟩
  ·
   have hf:=Lib.hid (decide_eq_true (eq_of_all Hlen.out fun j hj=>Hno.out j hj (by have:=Hlen.out;omega) (by omega)))
   go_wp2_with fail
   go_ret
   exact ⟨ret_bool hf.out.symm,Hb.out⟩

end Go.Proofs.YtialfdomhoojiaaGreat
namespace Go.Proofs.YtialfdomhoojiaaGreat
open Go.RowKit

def SetI (w:World) (b:Nat) (S:List Int):Prop :=
 ∃ D:DataW Unit,w.ownsMap Tryz.prog 3 ibR b S.length D∧Maps.size D=S.length∧(∀ id,D.atKey (.int .i64 id) (ibD false)=ibD (decide (id∈S)))∧∀ id,Maps.has D (.int .i64 id)=decide (id∈S)
theorem SetI.kept {w w':World} {b:Nat} {S:List Int} (h:SetI w b S) {row:Option Nat} (hg:w.grownBy w' row) (hr:some b≠row):SetI w' b S:=by
 obtain ⟨D,h1,h2⟩:=h
 exact ⟨D,h1.kept hg hr,h2⟩
theorem SetI.keep {w w':World} {b:Nat} {S:List Int} (h:SetI w b S) (hb:Below w.heap.size w w'):SetI w' b S :=
 h.kept (row:=none) ⟨hb.os,hb.tape,hb.output,hb.size,fun i hi _=>hb.block i hi⟩ (by simp)
theorem SetI.lt {w:World} {b:Nat} {S:List Int} (h:SetI w b S):b<w.heap.size:=by
 obtain ⟨D,h1,h2⟩:=h
 exact h1.lt
theorem SetI.made (w:World):SetI (w.alloc (.map #[] 0)) w.heap.size [] :=
 ⟨.map [],World.ownsMap_made _ _ _ _,rfl,fun _=>rfl,fun _=>rfl⟩
theorem SetI.look {w:World} {b:Nat} {S:List Int} (h:SetI w b S) (id:Int) (hid:wfI id) :
  (Instr.lookup 139 (.map (some b)) (.int .i64 id) false).run Tryz.prog w=.ok (.bool (decide (id∈S))) w:=by
 obtain ⟨D,h1,-,h2,-⟩:=h
 obtain ⟨v,ps,hr,hv⟩:=h1.lookup keyed_int Tryz.underlying139 (zero_ib w) (zd:=ibD false) (zp:=[]) rfl (Maps.keyOf_int_mk Tryz.underlying3 hid)
 rw [h2] at hv
 rw [hr,ibR_inv hv]
theorem SetI.len {w:World} {b:Nat} {S:List Int} (h:SetI w b S) (ty:TypeId) :
  (Builtin.len_ #[139] ty #[.map (some b)]).run Tryz.prog w=.ok (.int .i64 S.length) w:=by
 obtain ⟨D,h1,h2,-⟩:=h
 rw [h1.len Tryz.underlying139 ty,h2]
set_option maxRecDepth 100000 in
theorem SetI.upd {w:World} {b:Nat} {S:List Int} (h:SetI w b S) (hn:S.length<4294967296) (id:Int) (hid:wfI id) (hx:id∉S) :
  ∃ w',(Instr.mapUpdate 139 (.map (some b)) (.int .i64 id) (.bool true)).run Tryz.prog w=.ok () w'∧SetI w' b (S++[id])∧w.grownBy w' (some b):=by
 obtain ⟨D,h1,h2,h3,h4⟩:=h
 have ht:=h1.tidy keyed_int
 obtain ⟨w',hr,ho,hg⟩:=h1.update keyed_int Tryz.underlying139 (by unfold maxLen;omega) (Maps.keyOf_int_mk Tryz.underlying3 hid) (val:=.bool true) (d:=ibD true) (ps:=[]) rfl
 refine ⟨w',hr,⟨_,by rw [List.length_append];exact ho,?_,fun i=>?_,fun i=>?_⟩,hg⟩
 · rw [Maps.size_put ht,h4,decide_eq_false hx,h2,List.length_append];rfl
 ·
  by_cases e:i=id
  ·
   subst e
   rw [Maps.atKey_put_same ht.isMap (by trivial),decide_eq_true (by simp)]
  ·
   rw [Maps.atKey_put_other (fun h=>e (by injection h)),h3]
   congr 1
   simp [e]
 ·
  by_cases e:i=id
  ·
   subst e
   rw [Maps.has_put_same ht.isMap (by trivial),decide_eq_true (by simp)]
  ·
   rw [Maps.has_put_other (fun h=>e (by injection h)),h4]
   simp [e]
theorem setI_ne {w:World} {gm:Nat} {S:List Int} (h:SetI w gm S) {g:Nat} {t:TypeId} {cs:Array Value} (hg:Blk w g t cs):g≠gm:=by
 rintro rfl
 obtain ⟨D,h1,-⟩:=h
 obtain ⟨es,clock,h2,-⟩:=h1
 unfold Blk at hg
 rw [hg] at h2
 cases h2
theorem setI_own {w:World} {gm:Nat} {S:List Int} (h:SetI w gm S) {base:Nat} {e:TypeId} {size:Nat} {α:Type} {fe:α→List Value} {v:Value} {l:List α} (ho:Own w base e size fe v l):v.ownBlock≠some gm:=by
 rcases ho.2 with ⟨rfl,_⟩ | ⟨g,cap,cur,rfl,_,hh,_⟩
 · simp [Value.ownBlock]
 ·
  intro e'
  exact setI_ne h (cs:=cur) (g:=g) hh (by simpa [Value.ownBlock] using e')
end Go.Proofs.YtialfdomhoojiaaGreat
