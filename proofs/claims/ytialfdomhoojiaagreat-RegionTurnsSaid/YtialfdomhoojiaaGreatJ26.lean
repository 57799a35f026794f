import Derived.Test.YtialfdomhoojiaaGreatJ25
import Derived.Test.YtialfdomhoojiaaGreatGB
import Derived.Test.YtialfdomhoojiaaGreatJ07
import Derived.Deep.CutBlock
import Derived.Test.YtialfdomhoojiaaGreatJ01
set_option linter.unusedSimpArgs false
set_option linter.unusedVariables false
namespace Go.Proofs.YtialfdomhoojiaaGreat
open Go.RowKit
def DJ (n lo hi:Int):Bool:=decide (lo<=n) && decide (n<=hi)
theorem aqu (n lo hi:Int):DJ n lo hi=true↔lo<=n/\n<=hi:=by simp [DJ]
def Hg (p:Pt):Bool:=DJ p.x (-1048576) 1048576 && DJ p.y (-1048576) 1048576
def aqv (s:Se):Pt:=⟨s.at_.x+s.cols*s.width,s.at_.y+s.rows*s.height⟩
def abr (s:Se):Bool:=Hg s.at_ && (DJ s.width 1 65536 && (DJ s.height 1 65536 && (DJ s.cols 1 16 && DJ s.rows 1 16)))
def VU (s:Se):Bool:=abr s && Hg (aqv s)
def aho (s:Se) (n:Int):Bool:=decide (1<=n) && decide (n<=s.cols*s.rows)
def colS (s:Se) (n:Int):Int:=(n-1).tmod s.cols
def VW (s:Se) (n:Int):Int:=(n-1).tdiv s.cols
structure ahp (s:Se):Prop where
 x:-1048576<=s.at_.x/\s.at_.x<=1048576
 y:-1048576<=s.at_.y/\s.at_.y<=1048576
 w:1<=s.width/\s.width<=65536
 h:1<=s.height/\s.height<=65536
 c:1<=s.cols/\s.cols<=16
 r:1<=s.rows/\s.rows<=16
theorem aqw {s:Se} (h:abr s=true):ahp s:=by
 unfold abr Hg at h;simp only [Bool.and_eq_true,aqu] at h;obtain ⟨⟨h1,h2⟩,h3,h4,h5,h6⟩:=h;exact ⟨h1,h2,h3,h4,h5,h6⟩
theorem aqx {s:Se} (h:VU s=true):ahp s:=by
 unfold VU at h;rw [Bool.and_eq_true] at h;exact aqw h.1
set_option maxRecDepth 100000 in
set_option maxHeartbeats 1000000 in
theorem aqy (p:Pt) (w:World):Calls Tryz.prog 26 #[bg p] w fun e w'=>e=.returned (.bool (Hg p))/\Below w.heap.size w w':=by
 unfold bg Hg DJ;by_cases h1:-1048576<=p.x
 case neg =>
  go_enter Tryz.func26,Tryz.ntmps26;go_wp2_with fail;go_ret;exact ⟨eu (by first | rfl | (simp;done) | (simp;intros;omega) | (rw [Bool.eq_iff_iff];simp;omega)),bA (bR w) _⟩
 by_cases h2:p.x<=1048576
 case neg =>
  go_enter Tryz.func26,Tryz.ntmps26;go_wp2_with fail;go_ret;exact ⟨eu (by first | rfl | (simp;done) | (simp;intros;omega) | (rw [Bool.eq_iff_iff];simp;omega)),bA (bR w) _⟩
 by_cases h3:-1048576<=p.y
 case neg =>
  go_enter Tryz.func26,Tryz.ntmps26;go_wp2_with fail;go_ret;exact ⟨eu (by first | rfl | (simp;done) | (simp;intros;omega) | (rw [Bool.eq_iff_iff];simp;omega)),bA (bR w) _⟩
 go_enter Tryz.func26,Tryz.ntmps26;go_wp2_with fail;go_ret;exact ⟨eu (by first | rfl | (simp;done) | (simp;intros;omega) | (rw [Bool.eq_iff_iff];simp;omega)),bA (bR w) _⟩
structure VX (s:Se) (n:Int):Prop where
 ok:VU s=true
 lo:1<=n
 hi:n<=s.cols*s.rows
theorem VX.of {s:Se} {n:Int} (h1:VU s=true) (h2:aho s n=true):VX s n:=by
 unfold aho at h2;simp only [Bool.and_eq_true,decide_eq_true_eq] at h2;exact ⟨h1,h2.1,h2.2⟩
theorem VX.bd {s:Se} {n:Int} (h:VX s n):0<=colS s n/\colS s n<s.cols/\0<=VW s n/\VW s n<s.rows/\n=VW s n*s.cols+colS s n+1:=by
 have hb:=aqx h.ok;have h1:=h.lo;have h2:=h.hi;have hc:=hb.c;unfold colS VW;rw [Int.tmod_eq_emod_of_nonneg (by omega),Int.tdiv_eq_ediv_of_nonneg (by omega)];have e1:=Int.emod_nonneg (n-1) (show s.cols≠0 by omega);have e2:=Int.emod_lt_of_pos (n-1) (show 0<s.cols by omega);have e3:=Int.mul_ediv_add_emod (n-1) s.cols;have e4:0<=(n-1) / s.cols:=Int.ediv_nonneg (by omega) (by omega);refine ⟨e1,e2,e4,?_,?_⟩
 ·rcases Int.lt_or_le ((n-1) / s.cols) s.rows with h3 | h3
  · exact h3
  ·have:=Int.mul_le_mul_of_nonneg_left h3 (show 0<=s.cols by omega)
   omega
 · rw [Int.mul_comm];omega
theorem results_tmp3 {fn:Func} {t u v:Tmp} (h:fn.results=#[.tmp t,.tmp u,.tmp v]) (tmps:Array Value) (P:Program) (w:World):(results fn tmps).run P w=.ok (.tuple #[tmps.getD t undef,tmps.getD u undef,tmps.getD v undef]) w:=by
 simp [results,h]
def Ns (g:Ed) (path:List Pt) (m k:Nat):List Pt:=if k=m+1 then [VQ g (path.getD m aB) (path.getD k aB)] else (path.drop (m+1)).take (k-(m+1))
def JW (g:Ed) (ns:List Nd) (id:Int) (path:List Pt) (m k:Nat):List Cr :=
 if Q5 g ns (Ns g path m k)=true then [⟨Nr g (ahi (Ns g path m k)),id,if innerS g (path.getD m aB) then 1 else 0⟩] else []
def je (g:Ed) (ns:List Nd) (id:Int) (path:List Pt):Nat->Int×List Cr
 | 0=>(-1,[])
 | k+1 =>
  if onE g (path.getD k aB)=true then je g ns id path k
  else ((k:Int),(je g ns id path k).2++(if 0<=(je g ns id path k).1/\innerS g (path.getD (je g ns id path k).1.toNat aB)≠innerS g (path.getD k aB) then JW g ns id path (je g ns id path k).1.toNat k else []))
theorem aqz (g:Ed) (ns:List Nd) (id:Int) (path:List Pt) (k:Nat):-1<=(je g ns id path k).1/\(je g ns id path k).1<k/\(0<=(je g ns id path k).1->onE g (path.getD (je g ns id path k).1.toNat aB)=false)/\(je g ns id path k).2.length<=k:=by
 induction k with
 | zero=>simp [je]
 | succ k ih =>
  unfold je;split
  ·obtain ⟨h1,h2,h3,h4⟩:=ih;exact ⟨h1,by omega,h3,by omega⟩
  ·rename_i hq;obtain ⟨h1,h2,h3,h4⟩:=ih;refine ⟨show (-1:Int)<=(k:Int) by omega,show (k:Int)<((k+1:Nat):Int) by omega,fun _=>by simp only [Int.toNat_natCast];exact Bool.eq_false_iff.2 hq,?_⟩
   show ((je g ns id path k).2++_).length<=k+1
   rw [List.length_append];have:(if 0<=(je g ns id path k).1/\innerS g (path.getD (je g ns id path k).1.toNat aB)≠innerS g (path.getD k aB) then JW g ns id path (je g ns id path k).1.toNat k else []).length<=1:=by
    split
    · unfold JW;split<;>simp
    · simp
   omega
theorem ahq {g:Ed} {ns:List Nd} {id:Int} {path:List Pt} {k:Nat} (h:onE g (path.getD k aB)=true):je g ns id path (k+1)=je g ns id path k:=by
 rw [je,if_pos h]
theorem ahr {g:Ed} {ns:List Nd} {id:Int} {path:List Pt} {k:Nat} {L:List Cr} (h:onE g (path.getD k aB)=false) (he:je g ns id path k=(-1,L)):je g ns id path (k+1)=((k:Int),L):=by
 rw [je,if_neg (by rw [h];simp),he,if_neg (by simp)];simp
theorem ahs {g:Ed} {ns:List Nd} {id:Int} {path:List Pt} {k m:Nat} {L:List Cr} (h:onE g (path.getD k aB)=false) (he:je g ns id path k=((m:Int),L)) (hi:innerS g (path.getD m aB)=innerS g (path.getD k aB)):je g ns id path (k+1)=((k:Int),L):=by
 rw [je,if_neg (by rw [h];simp),he,if_neg]
 · simp
 ·simp only [Int.toNat_natCast];exact fun h=>h.2 hi
theorem aht {g:Ed} {ns:List Nd} {id:Int} {path:List Pt} {k m:Nat} {L:List Cr} (h:onE g (path.getD k aB)=false) (he:je g ns id path k=((m:Int),L)) (hi:innerS g (path.getD m aB)≠innerS g (path.getD k aB)):je g ns id path (k+1)=((k:Int),L++JW g ns id path m k):=by
 rw [je,if_neg (by rw [h];simp),he,if_pos]
 · simp
 ·simp only [Int.toNat_natCast];exact ⟨by omega,hi⟩
theorem G9.rng {a b:Pt} {x:Int} (h:G9 a b x):eG (JV a b x):=by
 obtain ⟨h1,h2,h3,-⟩:=h.facts;obtain ⟨r1,r2,r3,r4,r5,r6⟩:=aes h1 h2 h3;have:=h.pa.2
 refine oV ?_ ?_<;>(unfold JV Zj;split<;>omega)
theorem G9.line {a b:Pt} {x:Int} (h:G9 a b x):eG x:=by
 have h1:=h.lo;have h2:=h.pa.1;have h3:=h.pb.1;unfold abn at h1;exact oV (by omega) (by omega)
def Rd (w:World) (g:Nat) (cs:Array Value):Prop:=g<w.heap.size/\∀ i,w.cell? ⟨g,i,none⟩=cs[i]?
theorem Rd.keep {w w':World} {g:Nat} {cs:Array Value} (h:Rd w g cs) (hb:Below w.heap.size w w'):Rd w' g cs:=⟨Nat.lt_of_lt_of_le h.1 hb.size,fun i=>by rw [hb.cell (p:=⟨g,i,none⟩) h.1];exact h.2 i⟩
def Mv (w:World):Prop:=Rd w 0 #[.int .i64 (-1),.int .i64 0,.int .i64 0,.int .i64 (-1),.int .i64 1,.int .i64 0,.int .i64 0,.int .i64 1]
theorem Mv.keep {w w':World} (h:Mv w) (hb:Below w.heap.size w w'):Mv w':=Rd.keep h hb
structure Facing (g k:Ed):Prop where
 up:k.QX=g.QX
 line:k.line=g.line
 lo:k.lo=g.lo
 hi:k.hi=g.hi
 pos:QY k = !QY g
section
variable {g k:Ed} (h:Facing g k)
include h
theorem Facing.along (p:Pt):Nr k p=Nr g p:=by unfold Nr;rw [h.up]
theorem Facing.across (p:Pt):DI k p=DI g p:=by unfold DI;rw [h.up]
theorem Facing.on (p:Pt):onE k p=onE g p:=by unfold onE;rw [h.across,h.line]
theorem Facing.inner {p:Pt} (hn:onE g p=false):innerS k p = !innerS g p:=by
 unfold onE at hn;rw [decide_eq_false_iff_not] at hn;unfold innerS;rw [h.pos,h.across,h.line]
 cases QY g
 ·simp only [Bool.not_false,if_true,Bool.false_eq_true,if_false];by_cases h1:g.line<DI g p
  · rw [decide_eq_true h1,decide_eq_false (by omega)];rfl
  · rw [decide_eq_false h1,decide_eq_true (by omega)];rfl
 ·simp only [Bool.not_true,if_true,Bool.false_eq_true,if_false];by_cases h1:g.line<DI g p
  · rw [decide_eq_true h1,decide_eq_false (by omega)];rfl
  · rw [decide_eq_false h1,decide_eq_true (by omega)];rfl
theorem Facing.strict (ns:List Nd) (p:Pt):QZ k ns p=QZ g ns p:=by unfold QZ;rw [h.along,h.lo,h.hi]
theorem Facing.open_ (ns:List Nd) (l:List Pt):Q5 k ns l=Q5 g ns l:=by unfold Q5;rw [h.strict,h.strict]
theorem Facing.meet (a b:Pt):VQ k a b=VQ g a b:=by unfold VQ;rw [h.up,h.line]
theorem Facing.run (path:List Pt) (m j:Nat):Ns k path m j=Ns g path m j:=by unfold Ns;rw [h.meet]
theorem Facing.cr (ns:List Nd) (id:Int) (path:List Pt) {m:Nat} (j:Nat) (hm:onE g (path.getD m aB)=false):JW k ns id path m j=(JW g ns id path m j).map ahh:=by
 unfold JW;rw [h.run,h.open_,h.along,h.inner hm]
 cases Q5 g ns (Ns g path m j)
 · rfl
 ·cases innerS g (path.getD m aB)
  · rfl
  · rfl
theorem Facing.at_ (ns:List Nd) (id:Int) (path:List Pt) (j:Nat):je k ns id path j=((je g ns id path j).1,(je g ns id path j).2.map ahh):=by
 induction j with
 | zero=>rfl
 | succ j ih =>
  cases ho:onE g (path.getD j aB)
  case true => rw [ahq ho,ahq (by rw [h.on];exact ho),ih]
  have ho':onE k (path.getD j aB)=false:=by rw [h.on];exact ho
  obtain ⟨b1,b2,b3,-⟩:=aqz g ns id path j;obtain ⟨L,hL⟩:∃ L,(je g ns id path j).2=L:=⟨_,rfl⟩;by_cases hm:0<=(je g ns id path j).1
  case neg =>
   have e:je g ns id path j=(-1,L):=Prod.ext (by show (je g ns id path j).1=-1;omega) hL;rw [e] at ih;rw [ahr ho e,ahr ho' ih]
  have h3:=b3 hm;obtain ⟨m,hm'⟩:∃ m:Nat,(m:Int)=(je g ns id path j).1:=⟨(je g ns id path j).1.toNat,by omega⟩;have e:je g ns id path j=((m:Int),L):=Prod.ext hm'.symm hL;rw [<- hm',Int.toNat_natCast] at h3;rw [e] at ih;by_cases hi:innerS g (path.getD m aB)=innerS g (path.getD j aB)
  · rw [ahs ho e hi,ahs ho' ih (by rw [h.inner h3,h.inner ho,hi])]
  ·rw [aht ho e hi,aht ho' ih (by rw [h.inner h3,h.inner ho];intro e;exact hi (by revert e;cases innerS g (path.getD m aB)<;>cases innerS g (path.getD j aB)<;>simp)),h.cr ns id path j h3];simp
end
def BK (l:List Int) (n:Int):List Int:=if l.any (fun y=>decide (y=n)) then l else l.takeWhile (fun y=>decide (y<n))++n::l.dropWhile (fun y=>decide (y<n))
def VY (l:List Int):List Int:=l.foldl BK []
set_option maxHeartbeats 400000 in
theorem aqA (v u:Value) (l m:List Int) (w:World) (h:Ints w v l) (h':Ints w u m) :
  Calls Tryz.prog 55 #[v,u] w fun e w'=>e=.returned (.bool (decide (l=m)))/\Below w.heap.size w w':=by
 obtain ⟨A,c,rfl,hn,hc,hR⟩:=h;obtain ⟨A',c',rfl,hn',hc',hR'⟩:=h';unfold maxLen at hc hc';by_cases hlen:l.length=m.length
 case neg =>
  have hf:=Lib.hid (decide_eq_false (fun e:l=m=>hlen (congrArg List.length e)));have hl1:((l.length:Int) != (m.length:Int))=true:=by rw [bne_iff_ne];omega
  have hl2:(l.length != m.length)=true:=by rw [bne_iff_ne];omega
  clear hlen;go_enter Tryz.func55,Tryz.ntmps55;go_wp2_with fail;go_ret;exact ⟨eu hf.out.symm,bR w⟩
 case pos =>
 have hl1:((l.length:Int) != (m.length:Int))=false:=by simp [hlen]
 have hl2:(l.length != m.length)=false:=by simp [hlen]
 have Hlen:=Lib.hid hlen;clear hlen;go_enter Tryz.func55,Tryz.ntmps55;go_wp2_with fail;go_loopw [5] (fun i wr=>∃ k:Nat,k<=l.length/\i=.int .i64 k/\Below w.heap.size w wr/\∀ j (hj:j<l.length) (hj':j<m.length),j<k->l[j]=m[j]) (fun i _=>l.length-(intOf i).toNat)
 case atStart => exact ⟨0,Nat.zero_le _,rfl,bR w,fun j _ _ h=>by omega⟩
 case round =>
  obtain ⟨k,hk,rfl,hb,hno⟩:=hrel;have Hb:=Lib.hid hb;have Hno:=Lib.hid hno;clear hb hno hl1 hl2;by_cases hlt:k<l.length
  ·have hlt':k<m.length:=by have:=Hlen.out;omega
   obtain ⟨b,o,rfl,hlb,c0⟩:=(hR.mono Hb.out).int hlt;obtain ⟨b',o',rfl,Cb,c0q⟩:=(hR'.mono Hb.out).int hlt';have HR:=Lib.hid hR;have HR':=Lib.hid hR';clear hR hR';have q1:0<=(k:Int):=by omega
   have q2:(k:Int)<l.length:=by omega
   have q3:(k:Int)<m.length:=by omega
   by_cases he:l[k]=m[k]
   ·have hd:(l[k] != m[k])=false:=by simpa using he
    have He:=Lib.hid he;clear he;go_upto_region 6 with fail;refine cZ (Since wr) (.run 9 0 0 (.done)) (by kernel_rfl) (bD (bR _)) (by kernel_rfl) (by kernel_rfl) (Nat.le_of_ble_eq_true (by kernel_rfl)) ?_;intro dn QR au aC hS
    iterate 9
     apply bn;exact au;exact rfl;exact hS;exact rfl
     · intro _ hqc;go_simp;try rfl
     try simp only [pu]
    refine bQ ?_;refine aC.down _ _ ?_;have hB:Below wr.heap.size wr wr.drew:=hS;clear hS aC au;have Bw:Below w.heap.size w wr.drew:=bT Hb.out hB;clear hB;go_wp2_with fail;go_roundw
    case rel => exact ⟨k+1,by omega,by go_num,Bw,fun j hj hj' hjk=>if e:j<k then Hno.out j hj hj' e else by
      have:j=k:=by omega
      subst this;exact He.out⟩
    case measure => simp [intOf];omega
   ·have hd:(l[k] != m[k])=true:=by simpa using he
    have He:=Lib.hid he;clear he;go_upto_region 6 with fail;refine cZ (Since wr) (.run 9 0 0 (.done)) (by kernel_rfl) (bD (bR _)) (by kernel_rfl) (by kernel_rfl) (Nat.le_of_ble_eq_true (by kernel_rfl)) ?_;intro dn QR au aC hS
    iterate 9
     apply bn;exact au;exact rfl;exact hS;exact rfl
     · intro _ hqc;go_simp;try rfl
     try simp only [pu]
    refine bQ ?_;refine aC.down _ _ ?_;have hB:Below wr.heap.size wr wr.drew:=hS;clear hS aC au;have Bw:Below w.heap.size w wr.drew:=bT Hb.out hB;clear hB;go_wp2_with fail;go_ret;exact ⟨eu (decide_eq_false (akj k hlt hlt' He.out)).symm,Bw⟩
  ·have hf:=Lib.hid (decide_eq_true (aki Hlen.out fun j hj=>Hno.out j hj (by have:=Hlen.out;omega) (by omega)));go_wp2_with fail;go_ret;exact ⟨eu hf.out.symm,Hb.out⟩
end Go.Proofs.YtialfdomhoojiaaGreat
