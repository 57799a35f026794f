import Derived.Test.YtialfdomhoojiaaGreatJ15
import Derived.Test.YtialfdomhoojiaaGreatJ23
import Derived.Test.YtialfdomhoojiaaGreatJ07
import Derived.Deep.CutBlock
set_option linter.unusedSimpArgs false
set_option linter.unusedVariables false
namespace Go.Proofs.YtialfdomhoojiaaGreat
open Go.RowKit
def Fe (g:Ed) (path:List Pt) (m k:Nat):List Pt:=if k=m+1 then [KW g (path.getD m aQ) (path.getD k aQ)] else (path.drop (m+1)).take (k-(m+1))
def CZ (g:Ed) (ns:List Nd) (id:Int) (path:List Pt) (m k:Nat):List Cr :=
 if H6 g ns (Fe g path m k)=true then [⟨EM g (Zf (Fe g path m k)),id,if innerS g (path.getD m aQ) then 1 else 0⟩] else []
def fQ (g:Ed) (ns:List Nd) (id:Int) (path:List Pt):Nat->Int×List Cr
 | 0=>(-1,[])
 | k+1 =>
  if onE g (path.getD k aQ)=true then fQ g ns id path k
  else ((k:Int),(fQ g ns id path k).2++(if 0<=(fQ g ns id path k).1/\innerS g (path.getD (fQ g ns id path k).1.toNat aQ)≠innerS g (path.getD k aQ) then CZ g ns id path (fQ g ns id path k).1.toNat k else []))
theorem aia (g:Ed) (ns:List Nd) (id:Int) (path:List Pt) (k:Nat):-1<=(fQ g ns id path k).1/\(fQ g ns id path k).1<k/\(0<=(fQ g ns id path k).1->onE g (path.getD (fQ g ns id path k).1.toNat aQ)=false)/\(fQ g ns id path k).2.length<=k:=by
 induction k with
 | zero=>simp [fQ]
 | succ k ih =>
  unfold fQ;split
  ·obtain ⟨h1,h2,h3,h4⟩:=ih;exact ⟨h1,by omega,h3,by omega⟩
  ·rename_i hq;obtain ⟨h1,h2,h3,h4⟩:=ih;refine ⟨show (-1:Int)<=(k:Int) by omega,show (k:Int)<((k+1:Nat):Int) by omega,fun _=>by simp only [Int.toNat_natCast];exact Bool.eq_false_iff.2 hq,?_⟩
   show ((fQ g ns id path k).2++_).length<=k+1
   rw [List.length_append];have:(if 0<=(fQ g ns id path k).1/\innerS g (path.getD (fQ g ns id path k).1.toNat aQ)≠innerS g (path.getD k aQ) then CZ g ns id path (fQ g ns id path k).1.toNat k else []).length<=1:=by
    split
    · unfold CZ;split<;>simp
    · simp
   omega
theorem aaD {g:Ed} {ns:List Nd} {id:Int} {path:List Pt} {k:Nat} (h:onE g (path.getD k aQ)=true):fQ g ns id path (k+1)=fQ g ns id path k:=by
 rw [fQ,if_pos h]
theorem aaE {g:Ed} {ns:List Nd} {id:Int} {path:List Pt} {k:Nat} {L:List Cr} (h:onE g (path.getD k aQ)=false) (he:fQ g ns id path k=(-1,L)):fQ g ns id path (k+1)=((k:Int),L):=by
 rw [fQ,if_neg (by rw [h];simp),he,if_neg (by simp)];simp
theorem aaF {g:Ed} {ns:List Nd} {id:Int} {path:List Pt} {k m:Nat} {L:List Cr} (h:onE g (path.getD k aQ)=false) (he:fQ g ns id path k=((m:Int),L)) (hi:innerS g (path.getD m aQ)=innerS g (path.getD k aQ)):fQ g ns id path (k+1)=((k:Int),L):=by
 rw [fQ,if_neg (by rw [h];simp),he,if_neg]
 · simp
 ·simp only [Int.toNat_natCast];exact fun h=>h.2 hi
theorem aaG {g:Ed} {ns:List Nd} {id:Int} {path:List Pt} {k m:Nat} {L:List Cr} (h:onE g (path.getD k aQ)=false) (he:fQ g ns id path k=((m:Int),L)) (hi:innerS g (path.getD m aQ)≠innerS g (path.getD k aQ)):fQ g ns id path (k+1)=((k:Int),L++CZ g ns id path m k):=by
 rw [fQ,if_neg (by rw [h];simp),he,if_pos]
 · simp
 ·simp only [Int.toNat_natCast];exact ⟨by omega,hi⟩
theorem zC.rng {a b:Pt} {x:Int} (h:zC a b x):cZ (BP a b x):=by
 obtain ⟨h1,h2,h3,-⟩:=h.facts;obtain ⟨r1,r2,r3,r4,r5,r6⟩:=Ze h1 h2 h3;have:=h.pa.2
 refine nR ?_ ?_<;>(unfold BP Qi;split<;>omega)
theorem zC.line {a b:Pt} {x:Int} (h:zC a b x):cZ x:=by
 have h1:=h.lo;have h2:=h.pa.1;have h3:=h.pb.1;unfold Qj at h1;exact nR (by omega) (by omega)
def Rd (w:World) (g:Nat) (cs:Array Value):Prop:=g<w.heap.size/\∀ i,w.cell? ⟨g,i,none⟩=cs[i]?
theorem Rd.keep {w w':World} {g:Nat} {cs:Array Value} (h:Rd w g cs) (hb:Below w.heap.size w w'):Rd w' g cs:=⟨Nat.lt_of_lt_of_le h.1 hb.size,fun i=>by rw [hb.cell (p:=⟨g,i,none⟩) h.1];exact h.2 i⟩
def Mv (w:World):Prop:=Rd w 0 #[.int .i64 (-1),.int .i64 0,.int .i64 0,.int .i64 (-1),.int .i64 1,.int .i64 0,.int .i64 0,.int .i64 1]
theorem Mv.keep {w w':World} (h:Mv w) (hb:Below w.heap.size w w'):Mv w':=Rd.keep h hb
structure Facing (g k:Ed):Prop where
 up:k.G9=g.G9
 line:k.line=g.line
 lo:k.lo=g.lo
 hi:k.hi=g.hi
 pos:KU k = !KU g
section
variable {g k:Ed} (h:Facing g k)
include h
theorem Facing.along (p:Pt):EM k p=EM g p:=by unfold EM;rw [h.up]
theorem Facing.across (p:Pt):zD k p=zD g p:=by unfold zD;rw [h.up]
theorem Facing.on (p:Pt):onE k p=onE g p:=by unfold onE;rw [h.across,h.line]
theorem Facing.inner {p:Pt} (hn:onE g p=false):innerS k p = !innerS g p:=by
 unfold onE at hn;rw [decide_eq_false_iff_not] at hn;unfold innerS;rw [h.pos,h.across,h.line]
 cases KU g
 ·simp only [Bool.not_false,if_true,Bool.false_eq_true,if_false];by_cases h1:g.line<zD g p
  · rw [decide_eq_true h1,decide_eq_false (by omega)];rfl
  · rw [decide_eq_false h1,decide_eq_true (by omega)];rfl
 ·simp only [Bool.not_true,if_true,Bool.false_eq_true,if_false];by_cases h1:g.line<zD g p
  · rw [decide_eq_true h1,decide_eq_false (by omega)];rfl
  · rw [decide_eq_false h1,decide_eq_true (by omega)];rfl
theorem Facing.strict (ns:List Nd) (p:Pt):Hu k ns p=Hu g ns p:=by unfold Hu;rw [h.along,h.lo,h.hi]
theorem Facing.open_ (ns:List Nd) (l:List Pt):H6 k ns l=H6 g ns l:=by unfold H6;rw [h.strict,h.strict]
theorem Facing.meet (a b:Pt):KW k a b=KW g a b:=by unfold KW;rw [h.up,h.line]
theorem Facing.run (path:List Pt) (m j:Nat):Fe k path m j=Fe g path m j:=by unfold Fe;rw [h.meet]
theorem Facing.cr (ns:List Nd) (id:Int) (path:List Pt) {m:Nat} (j:Nat) (hm:onE g (path.getD m aQ)=false):CZ k ns id path m j=(CZ g ns id path m j).map Zb:=by
 unfold CZ;rw [h.run,h.open_,h.along,h.inner hm]
 cases H6 g ns (Fe g path m j)
 · rfl
 ·cases innerS g (path.getD m aQ)
  · rfl
  · rfl
theorem Facing.at_ (ns:List Nd) (id:Int) (path:List Pt) (j:Nat):fQ k ns id path j=((fQ g ns id path j).1,(fQ g ns id path j).2.map Zb):=by
 induction j with
 | zero=>rfl
 | succ j ih =>
  cases ho:onE g (path.getD j aQ)
  case true => rw [aaD ho,aaD (by rw [h.on];exact ho),ih]
  have ho':onE k (path.getD j aQ)=false:=by rw [h.on];exact ho
  obtain ⟨b1,b2,b3,-⟩:=aia g ns id path j;obtain ⟨L,hL⟩:∃ L,(fQ g ns id path j).2=L:=⟨_,rfl⟩;by_cases hm:0<=(fQ g ns id path j).1
  case neg =>
   have e:fQ g ns id path j=(-1,L):=Prod.ext (by show (fQ g ns id path j).1=-1;omega) hL;rw [e] at ih;rw [aaE ho e,aaE ho' ih]
  have h3:=b3 hm;obtain ⟨m,hm'⟩:∃ m:Nat,(m:Int)=(fQ g ns id path j).1:=⟨(fQ g ns id path j).1.toNat,by omega⟩;have e:fQ g ns id path j=((m:Int),L):=Prod.ext hm'.symm hL;rw [<- hm',Int.toNat_natCast] at h3;rw [e] at ih;by_cases hi:innerS g (path.getD m aQ)=innerS g (path.getD j aQ)
  · rw [aaF ho e hi,aaF ho' ih (by rw [h.inner h3,h.inner ho,hi])]
  ·rw [aaG ho e hi,aaG ho' ih (by rw [h.inner h3,h.inner ho];intro e;exact hi (by revert e;cases innerS g (path.getD m aQ)<;>cases innerS g (path.getD j aQ)<;>simp)),h.cr ns id path j h3];simp
end
end Go.Proofs.YtialfdomhoojiaaGreat
