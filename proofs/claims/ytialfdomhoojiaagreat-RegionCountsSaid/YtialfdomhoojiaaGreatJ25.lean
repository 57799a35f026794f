import Derived.Test.YtialfdomhoojiaaGreatJ24
import Derived.Test.YtialfdomhoojiaaGreatGB
import Derived.Test.YtialfdomhoojiaaGreatJ07
import Derived.Deep.CutBlock
import Derived.Test.YtialfdomhoojiaaGreatJ15
import Derived.Test.YtialfdomhoojiaaGreatJ01
set_option linter.unusedSimpArgs false
set_option linter.unusedVariables false
namespace Go.Proofs.YtialfdomhoojiaaGreat
open Go.RowKit
def FU (n lo hi:Int):Bool:=decide (lo<=n) && decide (n<=hi)
theorem apj (n lo hi:Int):FU n lo hi=true↔lo<=n/\n<=hi:=by simp [FU]
def aav (p:Pt):Bool:=FU p.x (-1048576) 1048576 && FU p.y (-1048576) 1048576
def apk (s:Se):Pt:=⟨s.at_.x+s.cols*s.width,s.at_.y+s.rows*s.height⟩
def aaw (s:Se):Bool:=aav s.at_ && (FU s.width 1 65536 && (FU s.height 1 65536 && (FU s.cols 1 16 && FU s.rows 1 16)))
def UH (s:Se):Bool:=aaw s && aav (apk s)
def agr (s:Se) (n:Int):Bool:=decide (1<=n) && decide (n<=s.cols*s.rows)
def colS (s:Se) (n:Int):Int:=(n-1).tmod s.cols
def UJ (s:Se) (n:Int):Int:=(n-1).tdiv s.cols
structure ags (s:Se):Prop where
 x:-1048576<=s.at_.x/\s.at_.x<=1048576
 y:-1048576<=s.at_.y/\s.at_.y<=1048576
 w:1<=s.width/\s.width<=65536
 h:1<=s.height/\s.height<=65536
 c:1<=s.cols/\s.cols<=16
 r:1<=s.rows/\s.rows<=16
theorem apl {s:Se} (h:aaw s=true):ags s:=by
 unfold aaw aav at h;simp only [Bool.and_eq_true,apj] at h;obtain ⟨⟨h1,h2⟩,h3,h4,h5,h6⟩:=h;exact ⟨h1,h2,h3,h4,h5,h6⟩
theorem apm {s:Se} (h:UH s=true):ags s:=by
 unfold UH at h;rw [Bool.and_eq_true] at h;exact apl h.1
structure UK (s:Se) (n:Int):Prop where
 ok:UH s=true
 lo:1<=n
 hi:n<=s.cols*s.rows
theorem UK.of {s:Se} {n:Int} (h1:UH s=true) (h2:agr s n=true):UK s n:=by
 unfold agr at h2;simp only [Bool.and_eq_true,decide_eq_true_eq] at h2;exact ⟨h1,h2.1,h2.2⟩
theorem UK.bd {s:Se} {n:Int} (h:UK s n):0<=colS s n/\colS s n<s.cols/\0<=UJ s n/\UJ s n<s.rows/\n=UJ s n*s.cols+colS s n+1:=by
 have hb:=apm h.ok;have h1:=h.lo;have h2:=h.hi;have hc:=hb.c;unfold colS UJ;rw [Int.tmod_eq_emod_of_nonneg (by omega),Int.tdiv_eq_ediv_of_nonneg (by omega)];have e1:=Int.emod_nonneg (n-1) (show s.cols≠0 by omega);have e2:=Int.emod_lt_of_pos (n-1) (show 0<s.cols by omega);have e3:=Int.mul_ediv_add_emod (n-1) s.cols;have e4:0<=(n-1) / s.cols:=Int.ediv_nonneg (by omega) (by omega);refine ⟨e1,e2,e4,?_,?_⟩
 ·rcases Int.lt_or_le ((n-1) / s.cols) s.rows with h3 | h3
  · exact h3
  ·have:=Int.mul_le_mul_of_nonneg_left h3 (show 0<=s.cols by omega)
   omega
 · rw [Int.mul_comm];omega
theorem results_tmp3 {fn:Func} {t u v:Tmp} (h:fn.results=#[.tmp t,.tmp u,.tmp v]) (tmps:Array Value) (P:Program) (w:World):(results fn tmps).run P w=.ok (.tuple #[tmps.getD t undef,tmps.getD u undef,tmps.getD v undef]) w:=by
 simp [results,h]
def LG (g:Ed) (path:List Pt) (m k:Nat):List Pt:=if k=m+1 then [UF g (path.getD m aB) (path.getD k aB)] else (path.drop (m+1)).take (k-(m+1))
def Jb (g:Ed) (ns:List Nd) (id:Int) (path:List Pt) (m k:Nat):List Cr :=
 if PG g ns (LG g path m k)=true then [⟨LD g (agk (LG g path m k)),id,if innerS g (path.getD m aB) then 1 else 0⟩] else []
def iG (g:Ed) (ns:List Nd) (id:Int) (path:List Pt):Nat->Int×List Cr
 | 0=>(-1,[])
 | k+1 =>
  if onE g (path.getD k aB)=true then iG g ns id path k
  else ((k:Int),(iG g ns id path k).2++(if 0<=(iG g ns id path k).1/\innerS g (path.getD (iG g ns id path k).1.toNat aB)≠innerS g (path.getD k aB) then Jb g ns id path (iG g ns id path k).1.toNat k else []))
theorem apn (g:Ed) (ns:List Nd) (id:Int) (path:List Pt) (k:Nat):-1<=(iG g ns id path k).1/\(iG g ns id path k).1<k/\(0<=(iG g ns id path k).1->onE g (path.getD (iG g ns id path k).1.toNat aB)=false)/\(iG g ns id path k).2.length<=k:=by
 induction k with
 | zero=>simp [iG]
 | succ k ih =>
  unfold iG;split
  ·obtain ⟨h1,h2,h3,h4⟩:=ih;exact ⟨h1,by omega,h3,by omega⟩
  ·rename_i hq;obtain ⟨h1,h2,h3,h4⟩:=ih;refine ⟨show (-1:Int)<=(k:Int) by omega,show (k:Int)<((k+1:Nat):Int) by omega,fun _=>by simp only [Int.toNat_natCast];exact Bool.eq_false_iff.2 hq,?_⟩
   show ((iG g ns id path k).2++_).length<=k+1
   rw [List.length_append];have:(if 0<=(iG g ns id path k).1/\innerS g (path.getD (iG g ns id path k).1.toNat aB)≠innerS g (path.getD k aB) then Jb g ns id path (iG g ns id path k).1.toNat k else []).length<=1:=by
    split
    · unfold Jb;split<;>simp
    · simp
   omega
theorem agt {g:Ed} {ns:List Nd} {id:Int} {path:List Pt} {k:Nat} (h:onE g (path.getD k aB)=true):iG g ns id path (k+1)=iG g ns id path k:=by
 rw [iG,if_pos h]
theorem agu {g:Ed} {ns:List Nd} {id:Int} {path:List Pt} {k:Nat} {L:List Cr} (h:onE g (path.getD k aB)=false) (he:iG g ns id path k=(-1,L)):iG g ns id path (k+1)=((k:Int),L):=by
 rw [iG,if_neg (by rw [h];simp),he,if_neg (by simp)];simp
theorem agv {g:Ed} {ns:List Nd} {id:Int} {path:List Pt} {k m:Nat} {L:List Cr} (h:onE g (path.getD k aB)=false) (he:iG g ns id path k=((m:Int),L)) (hi:innerS g (path.getD m aB)=innerS g (path.getD k aB)):iG g ns id path (k+1)=((k:Int),L):=by
 rw [iG,if_neg (by rw [h];simp),he,if_neg]
 · simp
 ·simp only [Int.toNat_natCast];exact fun h=>h.2 hi
theorem agw {g:Ed} {ns:List Nd} {id:Int} {path:List Pt} {k m:Nat} {L:List Cr} (h:onE g (path.getD k aB)=false) (he:iG g ns id path k=((m:Int),L)) (hi:innerS g (path.getD m aB)≠innerS g (path.getD k aB)):iG g ns id path (k+1)=((k:Int),L++Jb g ns id path m k):=by
 rw [iG,if_neg (by rw [h];simp),he,if_pos]
 · simp
 ·simp only [Int.toNat_natCast];exact ⟨by omega,hi⟩
theorem FQ.rng {a b:Pt} {x:Int} (h:FQ a b x):dP (Ja a b x):=by
 obtain ⟨h1,h2,h3,-⟩:=h.facts;obtain ⟨r1,r2,r3,r4,r5,r6⟩:=abK h1 h2 h3;have:=h.pa.2
 refine kQ ?_ ?_<;>(unfold Ja VZ;split<;>omega)
theorem FQ.line {a b:Pt} {x:Int} (h:FQ a b x):dP x:=by
 have h1:=h.lo;have h2:=h.pa.1;have h3:=h.pb.1;unfold aaq at h1;exact kQ (by omega) (by omega)
def Rd (w:World) (g:Nat) (cs:Array Value):Prop:=g<w.heap.size/\∀ i,w.cell? ⟨g,i,none⟩=cs[i]?
theorem Rd.keep {w w':World} {g:Nat} {cs:Array Value} (h:Rd w g cs) (hb:Below w.heap.size w w'):Rd w' g cs:=⟨Nat.lt_of_lt_of_le h.1 hb.size,fun i=>by rw [hb.cell (p:=⟨g,i,none⟩) h.1];exact h.2 i⟩
def Mv (w:World):Prop:=Rd w 0 #[.int .i64 (-1),.int .i64 0,.int .i64 0,.int .i64 (-1),.int .i64 1,.int .i64 0,.int .i64 0,.int .i64 1]
theorem Mv.keep {w w':World} (h:Mv w) (hb:Below w.heap.size w w'):Mv w':=Rd.keep h hb
structure Facing (g k:Ed):Prop where
 up:k.PD=g.PD
 line:k.line=g.line
 lo:k.lo=g.lo
 hi:k.hi=g.hi
 pos:UE k = !UE g
section
variable {g k:Ed} (h:Facing g k)
include h
theorem Facing.along (p:Pt):LD k p=LD g p:=by unfold LD;rw [h.up]
theorem Facing.across (p:Pt):FT k p=FT g p:=by unfold FT;rw [h.up]
theorem Facing.on (p:Pt):onE k p=onE g p:=by unfold onE;rw [h.across,h.line]
theorem Facing.inner {p:Pt} (hn:onE g p=false):innerS k p = !innerS g p:=by
 unfold onE at hn;rw [decide_eq_false_iff_not] at hn;unfold innerS;rw [h.pos,h.across,h.line]
 cases UE g
 ·simp only [Bool.not_false,if_true,Bool.false_eq_true,if_false];by_cases h1:g.line<FT g p
  · rw [decide_eq_true h1,decide_eq_false (by omega)];rfl
  · rw [decide_eq_false h1,decide_eq_true (by omega)];rfl
 ·simp only [Bool.not_true,if_true,Bool.false_eq_true,if_false];by_cases h1:g.line<FT g p
  · rw [decide_eq_true h1,decide_eq_false (by omega)];rfl
  · rw [decide_eq_false h1,decide_eq_true (by omega)];rfl
theorem Facing.strict (ns:List Nd) (p:Pt):PE k ns p=PE g ns p:=by unfold PE;rw [h.along,h.lo,h.hi]
theorem Facing.open_ (ns:List Nd) (l:List Pt):PG k ns l=PG g ns l:=by unfold PG;rw [h.strict,h.strict]
theorem Facing.meet (a b:Pt):UF k a b=UF g a b:=by unfold UF;rw [h.up,h.line]
theorem Facing.run (path:List Pt) (m j:Nat):LG k path m j=LG g path m j:=by unfold LG;rw [h.meet]
theorem Facing.cr (ns:List Nd) (id:Int) (path:List Pt) {m:Nat} (j:Nat) (hm:onE g (path.getD m aB)=false):Jb k ns id path m j=(Jb g ns id path m j).map agj:=by
 unfold Jb;rw [h.run,h.open_,h.along,h.inner hm]
 cases PG g ns (LG g path m j)
 · rfl
 ·cases innerS g (path.getD m aB)
  · rfl
  · rfl
theorem Facing.at_ (ns:List Nd) (id:Int) (path:List Pt) (j:Nat):iG k ns id path j=((iG g ns id path j).1,(iG g ns id path j).2.map agj):=by
 induction j with
 | zero=>rfl
 | succ j ih =>
  cases ho:onE g (path.getD j aB)
  case true => rw [agt ho,agt (by rw [h.on];exact ho),ih]
  have ho':onE k (path.getD j aB)=false:=by rw [h.on];exact ho
  obtain ⟨b1,b2,b3,-⟩:=apn g ns id path j;obtain ⟨L,hL⟩:∃ L,(iG g ns id path j).2=L:=⟨_,rfl⟩;by_cases hm:0<=(iG g ns id path j).1
  case neg =>
   have e:iG g ns id path j=(-1,L):=Prod.ext (by show (iG g ns id path j).1=-1;omega) hL;rw [e] at ih;rw [agu ho e,agu ho' ih]
  have h3:=b3 hm;obtain ⟨m,hm'⟩:∃ m:Nat,(m:Int)=(iG g ns id path j).1:=⟨(iG g ns id path j).1.toNat,by omega⟩;have e:iG g ns id path j=((m:Int),L):=Prod.ext hm'.symm hL;rw [<- hm',Int.toNat_natCast] at h3;rw [e] at ih;by_cases hi:innerS g (path.getD m aB)=innerS g (path.getD j aB)
  · rw [agv ho e hi,agv ho' ih (by rw [h.inner h3,h.inner ho,hi])]
  ·rw [agw ho e hi,agw ho' ih (by rw [h.inner h3,h.inner ho];intro e;exact hi (by revert e;cases innerS g (path.getD m aB)<;>cases innerS g (path.getD j aB)<;>simp)),h.cr ns id path j h3];simp
end
def oC (l:List Int) (n:Int):List Int:=if l.any (fun y=>decide (y=n)) then l else l.takeWhile (fun y=>decide (y<n))++n::l.dropWhile (fun y=>decide (y<n))
def tH (l:List Int):List Int:=l.foldl oC []
theorem apo {α:Type} {l:List α} {q:α->Bool} {k:Nat} (h:∀ j (hj:j<l.length),j<k->q l[j]=true) (he:k=l.length\/∃ hk:k<l.length,q l[k]=false):l.takeWhile q=l.take k/\l.dropWhile q=l.drop k:=by
 induction l generalizing k with
 | nil=>simp
 | cons a l ih =>
  cases k with
  | zero =>
   rcases he with h0 | ⟨hk,h0⟩
   · simp at h0
   ·simp only [List.getElem_cons_zero] at h0;rw [List.takeWhile_cons,List.dropWhile_cons];simp [h0]
  | succ k =>
   have h0:=h 0 (by simp) (by omega);simp only [List.getElem_cons_zero] at h0;rw [List.takeWhile_cons,List.dropWhile_cons];simp only [h0,if_true];rw [List.take_succ_cons,List.drop_succ_cons];obtain ⟨e1,e2⟩:=ih (k:=k) (fun j hj hjk=>by have h1:=h (j+1) (by simpa using hj) (by omega);simpa only [List.getElem_cons_succ] using h1) (by
    rcases he with h1 | ⟨hk,h1⟩
    · left;simpa using h1
    · right;exact ⟨by simpa using hk,by simpa only [List.getElem_cons_succ] using h1⟩)
   rw [e1,e2];exact ⟨rfl,rfl⟩
theorem apq (l m:List Int):tH (l++m)=m.foldl oC (tH l):=by
 unfold tH;rw [List.foldl_append]
theorem agx:∀ w,(Go.sizeOf 3).run Tryz.prog w=.ok 1 w:=fun _=>by kernel_rfl
theorem apr (l:List Int) (n:Int):(oC l n).length<=l.length+1:=by
 unfold oC;split
 · omega
 ·rw [List.length_append,List.length_cons];have:=congrArg List.length (List.takeWhile_append_dropWhile (p:=fun y=>decide (y<n)) (l:=l))
  rw [List.length_append] at this;omega
def agy (w:World) (l:List Int) (e:Ending) (w':World):Prop :=
 ∃ A c,e=.returned (.slice A l.length c)/\Below w.heap.size w w'/\Ints w' (.slice A l.length c) l
set_option maxRecDepth 100000 in
set_option maxHeartbeats 4000000 in
theorem aps (v:Value) (l:List Int) (n:Int) (w:World) (h:Ints w v l) (hl:l.length<=1000000):Calls Tryz.prog 91 #[v,.int .i64 n] w (agy w (oC l n)):=by
 have UL:=Lib.hid (fun W (hW:Below w.heap.size w W)=>ao8 v l n W (h.mono hW));obtain ⟨A,c,rfl,hn,hc,hR⟩:=h;have HC:=Lib.hid (show Ints w (.slice A l.length c) l from ⟨A,c,rfl,hn,hc,hR⟩);unfold maxLen at hc;have HR:=Lib.hid hR;clear hR
 cases hany:l.any (fun y=>decide (y=n))
 case true =>
  have hw:oC l n=l:=by unfold oC;rw [if_pos hany]
  rw [hw];rw [hany] at UL;clear hw hany;go_enter Tryz.func91,Tryz.ntmps91;go_wp2_with fail;refine (UL.out _ (bR w)).mono ?_;rintro e w1 ⟨rfl,hb1⟩;go_wp2_with fail;go_ret;exact ⟨A,c,rfl,hb1,HC.out.mono hb1⟩
 have hw:oC l n=l.takeWhile (fun y=>decide (y<n))++n::l.dropWhile (fun y=>decide (y<n)):=by unfold oC;rw [if_neg (by rw [hany];simp)]
 obtain ⟨q,hq⟩:∃ q,oC l n=q:=⟨_,rfl⟩;rw [hq] at hw ⊢;rw [hany] at UL;have Hq:=Lib.hid hw;clear hq hw hany;go_enter Tryz.func91,Tryz.ntmps91;go_wp2_with fail;refine (UL.out _ (bR w)).mono ?_;rintro e W0 ⟨rfl,hb0⟩;have HB0:=Lib.hid hb0;clear hb0;go_wp2_with fail;go_loopw [5] (fun u wr=>∃ k:Nat,k<=l.length/\u=.int .i64 k/\Below W0.heap.size W0 wr/\∀ j (hj:j<l.length),j<k->decide (l[j]<n)=true) (fun u _=>l.length-(intOf u).toNat)
 case atStart => exact ⟨0,Nat.zero_le _,rfl,bR W0,fun _ _ h=>by omega⟩
 case round =>
  obtain ⟨k,hk,rfl,hb,hno⟩:=hrel;have Hb:=Lib.hid hb;have Hno:=Lib.hid hno;clear hb hno;have q1:0<=(k:Int):=by omega
  by_cases hgo:∃ hlt:k<l.length,l[k]<n
  case pos =>
   obtain ⟨hlt,hz⟩:=hgo;have q2:(k:Int)<l.length:=by omega
   obtain ⟨b,o,rfl,hlb,c0⟩:=(HR.out.mono (bT HB0.out Hb.out)).int hlt;have Hz:=Lib.hid (decide_eq_true hz);go_wp2_with fail;go_roundw
   case rel => exact ⟨k+1,by omega,by go_num,Hb.out,all_succ (p:=fun y=>decide (y<n)=true) Hno.out hlt Hz.out⟩
   case measure => simp [intOf];omega
  case neg =>
  have he:k=l.length\/∃ hk:k<l.length,decide (l[k]<n)=false:=by
   by_cases h1:k<l.length
   ·right;exact ⟨h1,decide_eq_false fun h2=>hgo ⟨h1,h2⟩⟩
   · left;omega
  obtain ⟨ht,hd⟩:=apo (q:=fun y=>decide (y<n)) (fun j hj hjk=>Hno.out j hj hjk) he;have hins:=Hq.out;rw [ht,hd] at hins;have agz:=Lib.hid hins;clear hins hgo ht hd;have hrun1:=aiQ Tryz.underlying24 agx A l.length c k hk hn;have hrun2:=abH Tryz.underlying24 agx A l.length c k hk (k:Int) rfl;have kL:=Lib.hid (show Sl w (.slice A k c) (l.take k).length ((l.take k).flatMap dO) from Sl.aiR HC.out k hk);have uD:=Lib.hid (show Sl w (.slice (Gm A c k 1) (l.length-k) (c-k)) (l.drop k).length ((l.drop k).flatMap dO) from Sl.from_ nH HC.out k hk);have htl:(l.take k).length<=1000000:=by rw [List.length_take];omega
  have hdl:(l.drop k).length<=1000000:=by rw [List.length_drop];omega
  have lU:=Lib.hid htl;have UM:=Lib.hid hdl;clear htl hdl;have LH:=Lib.hid (bT HB0.out Hb.out);have LJ:=Lib.hid LH.out.size;rcases he with hke | ⟨hkl,hz⟩
  case inl =>
   have q2:¬ (k:Int)<l.length:=by omega
   clear hke;go_upto_region 7 with
    (at_builtin
     refine jH _ rfl (.tmp 25) (.tmp 28) _ rfl (base:=w.heap.size) pV nH pW rfl (Own.lit _ _ _ _ dO [] _ 0 _ rfl rfl LJ.out (dW (by omega)) rfl rfl) rfl (l2:=l.take k) (kL.out.mono (bA LH.out _)) (by have:=lU.out;simp only [List.length_nil];omega) (by have:=lU.out;simp only [List.length_nil];omega) (by have:=LJ.out;simp;omega) ?_;intro v1 w1 ho1 hg1 BJ;rw [List.nil_append] at ho1;have lS:=Lib.hid ho1;have B1:=Lib.hid (show Below w.heap.size w w1 from bG (bA LH.out _) hg1 (fun g hg=>by have h:=Option.some.inj hg;have:=LJ.out;simp at h;omega));have hz1:w.heap.size<=w1.heap.size:=B1.out.size;clear ho1 hg1 BJ)
   refine bZ (gW (w.heap.size) w1) (.take 0 1 (.take 1 3 (.run 3 4 3 (.call 2 119 (.call 3 127 (.call 7 255 (.take 8 511 (.done)))))))) (by kernel_rfl) (Below.drew (Below.refl _ _)) (by kernel_rfl) (by kernel_rfl) (Nat.le_of_ble_eq_true (by kernel_rfl)) ?_;intro cO QR ak aC hS
   iterate 5
    apply lK;exact ak;exact rfl;exact hS;exact rfl
    · intro _ hqc;go_simp;try rfl
    try simp only [pu]
   refine aT (i:=2) (aG ak rfl) (fun K hK=>?_);have aA:=Lib.hid hS;clear hS;refine aO (aV rfl) ?_;go_simp;refine hK.out _ _ (oM (by omega) aA.out _) (fun hS=>?_);clear hK K aA
   try simp only [pu]
   refine aT (i:=3) (aG ak rfl) (fun K hK=>?_);have aA:=Lib.hid hS;clear hS;refine aO (aV rfl) ?_;refine wI (.tmp 30) (.tmp 32) _ rfl (base:=w.heap.size) pV nH pW rfl (Own.alloc (lS.out.keep (bD (bR w1))) _) rfl (l2:=[n]) (Sl.lit (n:=1) (aj.made rfl _ _) rfl (dW (by omega))) (by have:=lU.out;simp only [List.length_cons,List.length_nil];omega) (by have:=lU.out;simp only [List.length_cons,List.length_nil];omega) (by simp;omega) ?_;intro v2 wr2 ho2 hg2 O5;have hB2:Below w.heap.size w1 wr2:=Below.grown (Below.alloc (Below.drew (Below.refl _ _)) (by simp;omega) _) hg2 (by simp;omega) (fun g hg=>(lS.out.lt g hg).1);have hS:gW (w.heap.size) w1 wr2:=hB2;have HB2:=Lib.hid hB2;have fM:=Lib.hid ho2;have hz2:w.heap.size<=wr2.heap.size:=Nat.le_trans hz1 hB2.size;clear ho2 hg2 O5 hB2;clear aA;refine hK.out _ _ hS (fun _=>?_);clear hK K
   try simp only [pu]
   refine aT (i:=7) (aG ak rfl) (fun K hK=>?_);have aA:=Lib.hid hS;clear hS;refine aO (aV rfl) ?_;refine wI (.tmp 33) (.tmp 36) _ rfl (base:=w.heap.size) pV nH pW rfl fM.out rfl (l2:=l.drop k) (uD.out.mono (B1.out.trans HB2.out)) (by have:=lU.out;have:=UM.out;simp only [List.length_append,List.length_cons,List.length_nil];omega) (by have:=lU.out;have:=UM.out;simp only [List.length_append,List.length_cons,List.length_nil];omega) hz2 ?_;intro v3 wr3 ho3 hg3 lY;rw [List.append_assoc,List.singleton_append,<- agz.out] at ho3;have hS:gW (w.heap.size) w1 wr3:=Below.grown HB2.out hg3 hz2 (fun g hg=>(fM.out.lt g hg).1);obtain ⟨A3,c3,hv3,-,-⟩:=Own.mY ho3;subst hv3;have fE:=Lib.hid ho3;clear ho3 hg3 lY;clear aA;refine hK.out _ _ hS (fun _=>?_);clear hK K
   try simp only [pu]
   apply lK;exact ak;exact rfl;exact hS;exact rfl
   · intro _ hqc;go_simp;try rfl
   try simp only [pu]
   refine bM ?_;refine aC.down _ _ ?_;have hB:Below (w.heap.size) w1 _:=hS;clear hS aC ak;go_wp2_with fail;go_ret;exact ⟨A3,c3,rfl,B1.out.trans hB,fE.out.sl⟩
  case inr =>
   have q2:(k:Int)<l.length:=by omega
   obtain ⟨b,o,rfl,hlb,c0⟩:=(HR.out.mono LH.out).int hkl;have q3:¬ l[k]<n:=by simpa using hz
   clear hz;go_upto_region 7 with
    (at_builtin
     refine jH _ rfl (.tmp 25) (.tmp 28) _ rfl (base:=w.heap.size) pV nH pW rfl (Own.lit _ _ _ _ dO [] _ 0 _ rfl rfl LJ.out (dW (by omega)) rfl rfl) rfl (l2:=l.take k) (kL.out.mono (bA LH.out _)) (by have:=lU.out;simp only [List.length_nil];omega) (by have:=lU.out;simp only [List.length_nil];omega) (by have:=LJ.out;simp;omega) ?_;intro v1 w1 ho1 hg1 BJ;rw [List.nil_append] at ho1;have lS:=Lib.hid ho1;have B1:=Lib.hid (show Below w.heap.size w w1 from bG (bA LH.out _) hg1 (fun g hg=>by have h:=Option.some.inj hg;have:=LJ.out;simp at h;omega));have hz1:w.heap.size<=w1.heap.size:=B1.out.size;clear ho1 hg1 BJ)
   refine bZ (gW (w.heap.size) w1) (.take 0 1 (.take 1 3 (.run 3 4 3 (.call 2 119 (.call 3 127 (.call 7 255 (.take 8 511 (.done)))))))) (by kernel_rfl) (Below.drew (Below.refl _ _)) (by kernel_rfl) (by kernel_rfl) (Nat.le_of_ble_eq_true (by kernel_rfl)) ?_;intro cO QR ak aC hS
   iterate 5
    apply lK;exact ak;exact rfl;exact hS;exact rfl
    · intro _ hqc;go_simp;try rfl
    try simp only [pu]
   refine aT (i:=2) (aG ak rfl) (fun K hK=>?_);have aA:=Lib.hid hS;clear hS;refine aO (aV rfl) ?_;go_simp;refine hK.out _ _ (oM (by omega) aA.out _) (fun hS=>?_);clear hK K aA
   try simp only [pu]
   refine aT (i:=3) (aG ak rfl) (fun K hK=>?_);have aA:=Lib.hid hS;clear hS;refine aO (aV rfl) ?_;refine wI (.tmp 30) (.tmp 32) _ rfl (base:=w.heap.size) pV nH pW rfl (Own.alloc (lS.out.keep (bD (bR w1))) _) rfl (l2:=[n]) (Sl.lit (n:=1) (aj.made rfl _ _) rfl (dW (by omega))) (by have:=lU.out;simp only [List.length_cons,List.length_nil];omega) (by have:=lU.out;simp only [List.length_cons,List.length_nil];omega) (by simp;omega) ?_;intro v2 wr2 ho2 hg2 O5;have hB2:Below w.heap.size w1 wr2:=Below.grown (Below.alloc (Below.drew (Below.refl _ _)) (by simp;omega) _) hg2 (by simp;omega) (fun g hg=>(lS.out.lt g hg).1);have hS:gW (w.heap.size) w1 wr2:=hB2;have HB2:=Lib.hid hB2;have fM:=Lib.hid ho2;have hz2:w.heap.size<=wr2.heap.size:=Nat.le_trans hz1 hB2.size;clear ho2 hg2 O5 hB2;clear aA;refine hK.out _ _ hS (fun _=>?_);clear hK K
   try simp only [pu]
   refine aT (i:=7) (aG ak rfl) (fun K hK=>?_);have aA:=Lib.hid hS;clear hS;refine aO (aV rfl) ?_;refine wI (.tmp 33) (.tmp 36) _ rfl (base:=w.heap.size) pV nH pW rfl fM.out rfl (l2:=l.drop k) (uD.out.mono (B1.out.trans HB2.out)) (by have:=lU.out;have:=UM.out;simp only [List.length_append,List.length_cons,List.length_nil];omega) (by have:=lU.out;have:=UM.out;simp only [List.length_append,List.length_cons,List.length_nil];omega) hz2 ?_;intro v3 wr3 ho3 hg3 lY;rw [List.append_assoc,List.singleton_append,<- agz.out] at ho3;have hS:gW (w.heap.size) w1 wr3:=Below.grown HB2.out hg3 hz2 (fun g hg=>(fM.out.lt g hg).1);obtain ⟨A3,c3,hv3,-,-⟩:=Own.mY ho3;subst hv3;have fE:=Lib.hid ho3;clear ho3 hg3 lY;clear aA;refine hK.out _ _ hS (fun _=>?_);clear hK K
   try simp only [pu]
   apply lK;exact ak;exact rfl;exact hS;exact rfl
   · intro _ hqc;go_simp;try rfl
   try simp only [pu]
   refine bM ?_;refine aC.down _ _ ?_;have hB:Below (w.heap.size) w1 _:=hS;clear hS aC ak;go_wp2_with fail;go_ret;exact ⟨A3,c3,rfl,B1.out.trans hB,fE.out.sl⟩
set_option maxRecDepth 100000 in
set_option maxHeartbeats 4000000 in
theorem agA (v:Value) (l:List Int) (w:World) (h:Ints w v l) (hl:l.length<=100000):Calls Tryz.prog 34 #[v] w (agy w (tH l)):=by
 have HW:=Lib.hid (@aps);obtain ⟨A,c,rfl,hn,hc,hR⟩:=h;unfold maxLen at hc;have HR:=Lib.hid hR;clear hR;go_enter Tryz.func34,Tryz.ntmps34;go_wp2_with fail;go_loopw [3,4] (fun s u wr=>∃ (k:Nat) (m:List Int),k<=l.length/\u=.int .i64 k/\Below w.heap.size w wr/\tH (l.take k)=m/\m.length<=k/\Ints wr s m) (fun _ u _=>l.length-(intOf u).toNat)
 case atStart => exact ⟨0,[],Nat.zero_le _,rfl,bA (bR w) _,rfl,Nat.le_refl _,Sl.lit (n:=0) (aj.made rfl _ _) rfl (dW (by omega))⟩
 case round =>
  obtain ⟨k,m,hk,rfl,hb,hm,hml,hs⟩:=hrel;have Hb:=Lib.hid hb;have Hm:=Lib.hid hm;have Hs:=Lib.hid hs;obtain ⟨As,cs,rfl,-⟩:=hs;clear hb hm;by_cases hlt:k<l.length
  case neg =>
   have hf:=Hm.out;rw [List.take_of_length_le (by omega)] at hf;have HF:=Lib.hid hf;clear hf;go_wp2_with fail;go_ret;rw [HF.out];exact ⟨As,cs,rfl,Hb.out,Hs.out⟩
  obtain ⟨b,o,rfl,hlb,c0⟩:=(HR.out.mono Hb.out).int hlt;have TW:=HW.out (.slice As m.length cs) m l[k] wr Hs.out (by omega);have hst:tH (l.take (k+1))=oC m l[k]:=by
   rw [List.take_succ_eq_append_getElem hlt,apq,Hm.out];rfl
  have dQ:=Lib.hid hst;have KX:=Lib.hid TW;have hwl:(oC m l[k]).length<=k+1:=by
   have:=apr m l[k]
   omega
  have HWl:=Lib.hid hwl;clear TW hst hwl;go_wp2_with fail;refine KX.out.mono ?_;rintro e w1 ⟨A1,c1,rfl,hb1,hs1⟩;have B1:=Lib.hid (bT Hb.out hb1);have S1:=Lib.hid hs1;clear hb1 hs1;go_wp2_with fail;go_roundw
  case rel => exact ⟨k+1,_,by omega,by go_num,B1.out,dQ.out,HWl.out,S1.out⟩
  case measure => simp [intOf];omega
set_option maxHeartbeats 400000 in
theorem apt (v u:Value) (l m:List Int) (w:World) (h:Ints w v l) (h':Ints w u m) :
  Calls Tryz.prog 55 #[v,u] w fun e w'=>e=.returned (.bool (decide (l=m)))/\Below w.heap.size w w':=by
 obtain ⟨A,c,rfl,hn,hc,hR⟩:=h;obtain ⟨A',c',rfl,hn',hc',hR'⟩:=h';unfold maxLen at hc hc';by_cases hlen:l.length=m.length
 case neg =>
  have hf:=Lib.hid (decide_eq_false (fun e:l=m=>hlen (congrArg List.length e)));have hl1:((l.length:Int) != (m.length:Int))=true:=by rw [bne_iff_ne];omega
  have hl2:(l.length != m.length)=true:=by rw [bne_iff_ne];omega
  clear hlen;go_enter Tryz.func55,Tryz.ntmps55;go_wp2_with fail;go_ret;exact ⟨eP hf.out.symm,bR w⟩
 case pos =>
 have hl1:((l.length:Int) != (m.length:Int))=false:=by simp [hlen]
 have hl2:(l.length != m.length)=false:=by simp [hlen]
 have Hlen:=Lib.hid hlen;clear hlen;go_enter Tryz.func55,Tryz.ntmps55;go_wp2_with fail;go_loopw [5] (fun i wr=>∃ k:Nat,k<=l.length/\i=.int .i64 k/\Below w.heap.size w wr/\∀ j (hj:j<l.length) (hj':j<m.length),j<k->l[j]=m[j]) (fun i _=>l.length-(intOf i).toNat)
 case atStart => exact ⟨0,Nat.zero_le _,rfl,bR w,fun j _ _ h=>by omega⟩
 case round =>
  obtain ⟨k,hk,rfl,hb,hno⟩:=hrel;have Hb:=Lib.hid hb;have Hno:=Lib.hid hno;clear hb hno hl1 hl2;by_cases hlt:k<l.length
  ·have hlt':k<m.length:=by have:=Hlen.out;omega
   obtain ⟨b,o,rfl,hlb,c0⟩:=(hR.mono Hb.out).int hlt;obtain ⟨b',o',rfl,Gu,c0q⟩:=(hR'.mono Hb.out).int hlt';have HR:=Lib.hid hR;have HR':=Lib.hid hR';clear hR hR';have q1:0<=(k:Int):=by omega
   have q2:(k:Int)<l.length:=by omega
   have q3:(k:Int)<m.length:=by omega
   by_cases he:l[k]=m[k]
   ·have hd:(l[k] != m[k])=false:=by simpa using he
    have He:=Lib.hid he;clear he;go_upto_region 6 with fail;refine bZ (Since wr) (.run 9 0 0 (.done)) (by kernel_rfl) (bD (bR _)) (by kernel_rfl) (by kernel_rfl) (Nat.le_of_ble_eq_true (by kernel_rfl)) ?_;intro cO QR ak aC hS
    iterate 9
     apply bg;exact ak;exact rfl;exact hS;exact rfl
     · intro _ hqc;go_simp;try rfl
     try simp only [pu]
    refine bM ?_;refine aC.down _ _ ?_;have hB:Below wr.heap.size wr wr.drew:=hS;clear hS aC ak;have Bw:Below w.heap.size w wr.drew:=bT Hb.out hB;clear hB;go_wp2_with fail;go_roundw
    case rel => exact ⟨k+1,by omega,by go_num,Bw,fun j hj hj' hjk=>if e:j<k then Hno.out j hj hj' e else by
      have:j=k:=by omega
      subst this;exact He.out⟩
    case measure => simp [intOf];omega
   ·have hd:(l[k] != m[k])=true:=by simpa using he
    have He:=Lib.hid he;clear he;go_upto_region 6 with fail;refine bZ (Since wr) (.run 9 0 0 (.done)) (by kernel_rfl) (bD (bR _)) (by kernel_rfl) (by kernel_rfl) (Nat.le_of_ble_eq_true (by kernel_rfl)) ?_;intro cO QR ak aC hS
    iterate 9
     apply bg;exact ak;exact rfl;exact hS;exact rfl
     · intro _ hqc;go_simp;try rfl
     try simp only [pu]
    refine bM ?_;refine aC.down _ _ ?_;have hB:Below wr.heap.size wr wr.drew:=hS;clear hS aC ak;have Bw:Below w.heap.size w wr.drew:=bT Hb.out hB;clear hB;go_wp2_with fail;go_ret;exact ⟨eP (decide_eq_false (ajg k hlt hlt' He.out)).symm,Bw⟩
  ·have hf:=Lib.hid (decide_eq_true (ajf Hlen.out fun j hj=>Hno.out j hj (by have:=Hlen.out;omega) (by omega)));go_wp2_with fail;go_ret;exact ⟨eP hf.out.symm,Hb.out⟩
end Go.Proofs.YtialfdomhoojiaaGreat
