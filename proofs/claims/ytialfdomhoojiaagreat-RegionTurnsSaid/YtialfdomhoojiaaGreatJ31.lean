import Derived.Test.YtialfdomhoojiaaGreatJ19
import Derived.Test.YtialfdomhoojiaaGreatJ30
import Derived.Test.YtialfdomhoojiaaGreatJ14
import Derived.Test.YtialfdomhoojiaaGreatJ27
import Derived.Test.YtialfdomhoojiaaGreatJ29
import Derived.Test.YtialfdomhoojiaaGreatJ01
import Derived.Test.YtialfdomhoojiaaGreatJ26
set_option linter.unusedSimpArgs false
set_option linter.unusedVariables false
namespace Go.Proofs.YtialfdomhoojiaaGreat
open Go.RowKit
set_option linter.unusedSectionVars false
theorem aq0 (a b v:Pt):tw (iG a b) (jF a b) v=if b.y<a.y then -tw a b v else tw a b v:=by
 unfold iG jF;split
 · unfold tw;grind
 · rfl
theorem aq1 {y:Int} {q:Pt×Pt} {x:Int}:((jl y q).countP (fun c=>decide (c<=x)):Int)+(if lH ⟨x,y⟩ q.1 q.2=true then 1 else 0)=(jl y q).length:=by
 obtain ⟨a,b⟩:=q;have hp:lH ⟨x,y⟩ a b=decide ((iG a b).y<=y/\y<(jF a b).y/\0<tw (iG a b) (jF a b) ⟨x,y⟩):=by
  rw [aq0];unfold lH iG jF;rw [decide_eq_decide]
  show (a.y<=y/\y<b.y/\0<tw a b ⟨x,y⟩)\/(b.y<=y/\y<a.y/\tw a b ⟨x,y⟩<0)↔_
  split<;>omega
 rw [hp];unfold jl;by_cases g:(iG a b).y<=y/\y<(jF a b).y
 ·rw [if_pos g];have hH:0<(jF a b).y-(iG a b).y:=by omega
  have e:(iG a b).x+zB y a b<=x↔¬ 0<tw (iG a b) (jF a b) ⟨x,y⟩:=by
   unfold zB;have:=IY (r:=(y-(iG a b).y)*((jF a b).x-(iG a b).x)) (t:=x-(iG a b).x) hH
   unfold tw;simp only;rw [Int.mul_comm ((jF a b).x-(iG a b).x),Int.mul_comm ((jF a b).y-(iG a b).y)];omega
  by_cases c:0<tw (iG a b) (jF a b) ⟨x,y⟩
  ·have e':¬ (iG a b).x+zB y a b<=x:=fun g=>e.1 g c;simp [g,c,e']
  ·have e':=e.2 c;simp [c,e']
 ·rw [if_neg g];have:¬ ((iG a b).y<=y/\y<(jF a b).y/\0<tw (iG a b) (jF a b) ⟨x,y⟩):=fun c=>g ⟨c.1,c.2.1⟩
  simp [this]
theorem aq2 (y:Int) (a b:Pt):((jl y (a,b)).length:Int) % 2=((if y<b.y then 1 else 0)-(if y<a.y then 1 else 0)) % 2:=by
 unfold jl iG jF;by_cases c:b.y<a.y
 ·simp only [c,if_true];by_cases c1:b.y<=y/\y<a.y
  · rw [if_pos c1,if_neg (by omega),if_pos c1.2];rfl
  ·rw [if_neg c1];by_cases c2:y<b.y
   · rw [if_pos c2,if_pos (by omega)];rfl
   · rw [if_neg c2,if_neg (by omega)];rfl
 ·simp only [c,if_false];by_cases c1:a.y<=y/\y<b.y
  · rw [if_pos c1,if_pos c1.2,if_neg (by omega)];rfl
  ·rw [if_neg c1];by_cases c2:y<a.y
   · rw [if_pos c2,if_pos (by omega)];rfl
   · rw [if_neg c2,if_neg (by omega)];rfl
theorem ahH {y x:Int} {a b:Pt} (hne:a≠b):fA (oP y (a,b)) x↔iT a b ⟨x,y⟩:=by
 have hon:iT a b ⟨x,y⟩↔iT (iG a b) (jF a b) ⟨x,y⟩:=by
  unfold iG jF;split
  · exact ⟨Bf,Bf⟩
  · exact Iff.rfl
 have hly:(iG a b).y<=(jF a b).y:=by unfold iG jF;split<;>omega
 rw [hon];unfold oP iT zB;simp only;generalize iG a b=s at *;generalize jF a b=t at *;have one:∀ {l h n:Int},fA [⟨l,h⟩] n↔l<=n/\n<h:=fun {l h n}=>by rw [mX];exact ⟨fun g=>g.resolve_right (uH n),.inl⟩
 have htw:tw s t ⟨x,y⟩=(y-s.y)*(t.x-s.x)-(x-s.x)*(t.y-s.y):=by unfold tw;grind
 by_cases g:y<s.y\/t.y<y
 ·rw [if_pos g];exact ⟨fun g2=>absurd g2 (uH _),fun g2=>by omega⟩
 rw [if_neg g];by_cases g2:s.y=t.y
 ·rw [if_pos g2,one];have e1:y-s.y=0:=by omega
  have e2:t.y-s.y=0:=by omega
  rw [htw,e1,e2,Int.zero_mul,Int.mul_zero];omega
 rw [if_neg g2];have hH:0<t.y-s.y:=by omega
 have KD:(x-s.x)*(t.y-s.y)=(y-s.y)*(t.x-s.x)->min s.x t.x<=x/\x<=max s.x t.x:=by
  intro e;by_cases c:s.x<=t.x
  ·have h1:0<=(y-s.y)*(t.x-s.x):=Int.mul_nonneg (by omega) (by omega);have h2:(y-s.y)*(t.x-s.x)<=(t.y-s.y)*(t.x-s.x):=Int.mul_le_mul_of_nonneg_right (by omega) (by omega);have h3:0*(t.y-s.y)<=(x-s.x)*(t.y-s.y):=by rw [e,Int.zero_mul];exact h1
   have h4:(x-s.x)*(t.y-s.y)<=(t.x-s.x)*(t.y-s.y):=by rw [e,Int.mul_comm (t.x-s.x)];exact h2
   have:=Int.le_of_mul_le_mul_right h3 hH
   have:=Int.le_of_mul_le_mul_right h4 hH
   omega
  ·have h1:(y-s.y)*(t.x-s.x)<=0:=Int.mul_nonpos_of_nonneg_of_nonpos (by omega) (by omega);have h2:(t.y-s.y)*(t.x-s.x)<=(y-s.y)*(t.x-s.x):=Int.mul_le_mul_of_nonpos_right (by omega) (by omega);have h3:(x-s.x)*(t.y-s.y)<=0*(t.y-s.y):=by rw [e,Int.zero_mul];exact h1
   have h4:(t.x-s.x)*(t.y-s.y)<=(x-s.x)*(t.y-s.y):=by rw [e,Int.mul_comm (t.x-s.x)];exact h2
   have:=Int.le_of_mul_le_mul_right h3 hH
   have:=Int.le_of_mul_le_mul_right h4 hH
   omega
 have cq:∀ k:Int,k*(t.y-s.y)=(y-s.y)*(t.x-s.x)->rJ ((y-s.y)*(t.x-s.x)) (t.y-s.y)=k:=by
  intro k e;have h1:=(IY (r:=(y-s.y)*(t.x-s.x)) (t:=k) hH).2 (by omega);have h2:¬ rJ ((y-s.y)*(t.x-s.x)) (t.y-s.y)<=k-1:=fun g3=>by
   have h9:=(IY hH).1 g3;have e2:(k-1)*(t.y-s.y)=k*(t.y-s.y)-(t.y-s.y):=by rw [Int.sub_mul,Int.one_mul]
   rw [e2,e] at h9;omega
  omega
 by_cases g3:rJ ((y-s.y)*(t.x-s.x)) (t.y-s.y)*(t.y-s.y)=(y-s.y)*(t.x-s.x)
 ·rw [if_pos g3,one];constructor
  ·intro g4;have e:x-s.x=rJ ((y-s.y)*(t.x-s.x)) (t.y-s.y):=by omega
   rw [<- e] at g3;have:=KD g3
   omega
  ·rintro ⟨g4,-,-,-,-⟩;have:=cq (x-s.x) (by omega)
   omega
 ·rw [if_neg g3];refine ⟨fun g4=>absurd g4 (uH _),fun g4=>?_⟩;exfalso;have:=cq (x-s.x) (by omega)
  rw [this] at g3;omega
theorem abE (x:Int):∀ (n:Nat) (l:List Int),l.length=n->l.Pairwise (·<=·)->l.length % 2=0->(fA (kT l) x↔(l.countP (fun c=>decide (c<=x))) % 2=1)
 | _,[],_,_,_=>by unfold kT;exact ⟨fun g=>absurd g (uH _),fun g=>by simp at g⟩
 | _,[a],_,_,h=>by simp at h
 | 0,a::b::l,hn,_,_=>by simp at hn
 | 1,a::b::l,hn,_,_=>by simp at hn
 | n+2,a::b::l,hn,hs,h=>by
  have h1:=List.pairwise_cons.1 hs;have h2:=List.pairwise_cons.1 h1.2;have ih:=abE x n l (by simpa using hn) h2.2 (by simp only [List.length_cons] at h;omega);have hab:=h1.1 b List.mem_cons_self;unfold kT;rw [wu,Ub,ih];by_cases c1:a<=x
  ·by_cases c2:b<=x
   ·rw [List.countP_cons_of_pos (by simpa using c1),List.countP_cons_of_pos (by simpa using c2)];omega
   ·have:l.countP (fun c=>decide (c<=x))=0:=by
     rw [List.countP_eq_zero];intro c hc;have:=h2.1 c hc
     simp;omega
    rw [List.countP_cons_of_pos (by simpa using c1),List.countP_cons_of_neg (by simpa using c2),this];omega
  ·have:(a::b::l).countP (fun c=>decide (c<=x))=0:=by
    rw [List.countP_eq_zero];intro c hc;rcases List.mem_cons.1 hc with rfl | hc
    · simpa using c1
    ·have:=h1.1 c hc
     simp;omega
   have h3:l.countP (fun c=>decide (c<=x))=0:=by
    rw [List.countP_eq_zero] at this ⊢;exact fun c hc=>this c (List.mem_cons_of_mem _ (List.mem_cons_of_mem _ hc))
   rw [this,h3];omega
theorem ahI (y x:Int):∀ S:List (Pt×Pt),((S.flatMap (jl y)).countP (fun c=>decide (c<=x)):Int)+(S.map fun q=>if lH ⟨x,y⟩ q.1 q.2=true then (1:Int) else 0).sum=(S.flatMap (jl y)).length
 | []=>rfl
 | q::S=>by
  have e:=aq1 (y:=y) (q:=q) (x:=x);have ih:=ahI y x S;rw [List.flatMap_cons,List.countP_append,List.length_append,List.map_cons,List.sum_cons];omega
theorem ahJ (y:Int):∀ S:List (Pt×Pt),(((S.flatMap (jl y)).length:Nat):Int)=(S.map fun q=>((jl y q).length:Int)).sum
 | []=>rfl
 | q::S=>by
  have ih:=ahJ y S;rw [List.flatMap_cons,List.length_append,List.map_cons,List.sum_cons];omega
theorem abG {α:Type} {f:α->List Rn} {n:Int}:∀ {l:List α},fA (l.flatMap f) n↔∃ a∈l,fA (f a) n
 | []=>⟨fun g=>absurd g (uH _),fun ⟨a,ha,_⟩=>by cases ha⟩
 | a::l=>by
  rw [List.flatMap_cons,wu,abG];constructor
  ·rintro (g | ⟨b,hb,g⟩)
   · exact ⟨a,List.mem_cons_self,g⟩
   · exact ⟨b,List.mem_cons_of_mem _ hb,g⟩
  ·rintro ⟨b,hb,g⟩;rcases List.mem_cons.1 hb with rfl | hb
   · exact .inl g
   · exact .inr ⟨b,hb,g⟩
section
variable {p:Pl} (h:Valid p)
include h
theorem Valid.Wj {X:List Int} (hX:X∈aI p) {c:List Int} (hc:c∈gY p (some X)):c∈bF p:=by
 unfold gY at hc;rcases List.mem_cons.1 hc with rfl | hc
 · exact (fF.1 hX).1
 · exact (tH.1 (List.mem_filter.1 hc).1).1
theorem Valid.ahK {L:List (List Int)} (hL:∀ c∈L,c∈bF p):iy p (oQ L):=by
 induction L with
 | nil=>exact fun n _=>wE _ _ fun a _=>by show (0:Int)*_=0;rw [Int.zero_mul]
 | cons c L ih=>exact (h.qK (hL c List.mem_cons_self)).add (ih fun d hd=>hL d (List.mem_cons_of_mem _ hd))
theorem Valid.abH {X:List Int} (hX:X∈aI p) (x y:Int):((iD p (some X)).flatMap (jl y)).length % 2=0 /\
  (((iD p (some X)).flatMap (jl y)).countP (fun c=>decide (c<=x)) % 2=1↔oM p (oQ (gY p (some X))) ⟨x,y⟩ % 2=1):=by
 have hL:∀ c∈gY p (some X),c∈bF p\/c=[]:=fun c hc=>.inl (h.Wj hX hc);have e1:=h.ag0 hL (fun q=>((jl y q).length:Int)) (fun a b=>(if y<b.y then 1 else 0)-(if y<a.y then 1 else 0)) (fun a b=>aq2 y a b);rw [h.LP (h.ahK fun c hc=>h.Wj hX hc) (fun u=>if y<u.y then 1 else 0)] at e1;have e2:=ahJ y (iD p (some X));have e3:=ahI y x (iD p (some X));have e4:=h.ag0 hL (fun q=>if lH ⟨x,y⟩ q.1 q.2=true then (1:Int) else 0) (wH ⟨x,y⟩) (fun a b=>by
  show (if lH ⟨x,y⟩ a b=true then (1:Int) else 0) % 2=_
  rw [afz];unfold wH;split
  · rfl
  · split<;>rfl)
 unfold oM;unfold iD at e2 e3 ⊢;omega
theorem Valid.Wn {X:List Int} (hX:X∈aI p) {q:Pt×Pt} (hq:q∈iD p (some X)):∃ a∈p.ah,(∃ c∈gY p (some X),a.id∈c\/-a.id∈c)/\∃ k,k+1<(ak p a).length/\q=((ak p a).getD k aB,(ak p a).getD (k+1) aB):=by
 obtain ⟨c,hc,hq⟩:=List.mem_flatMap.1 hq;obtain ⟨a,ha,hor,k,hk,e⟩:=h.PW (h.iE (h.Wj hX hc)).2 hq;exact ⟨a,ha,⟨c,hc,hor⟩,k,hk,e⟩
theorem Valid.Wp {X:List Int} (hX:X∈aI p) {a:Ar} (ha:a∈p.ah) {c:List Int} (hc:c∈gY p (some X)) (hm:a.id∈c\/-a.id∈c) {k:Nat} (hk:k+1<(ak p a).length):((ak p a).getD k aB,(ak p a).getD (k+1) aB)∈iD p (some X) :=
 List.mem_flatMap.2 ⟨c,hc,h.UE ha hm hk⟩
omit h in
theorem aq3 {L:List (List Int)} {i:Int} (h1:∀ c∈L,i∉c) (h2:∀ c∈L,-i∉c):oQ L i=0:=by
 unfold oQ;refine wE _ _ fun c hc=>?_;unfold aG;rw [if_neg (h1 c hc),if_neg (h2 c hc)];rfl
theorem Valid.aq4 {b:Option (List Int)} {x y:Int}:fA (zC p b y) x↔∃ n∈p.nodes,kV p.ah n.id=0/\dW p n.pt=b/\n.pt=⟨x,y⟩:=by
 unfold zC;rw [abG];have hfind:∀ n∈p.nodes,mM p.nodes n.id=some n:=fun n hn=>OT (fun x:Nd=>x.id) p.nodes h.sound.nodes n hn;have one:∀ {l h n:Int},fA [⟨l,h⟩] n↔l<=n/\n<h:=fun {l h n}=>by rw [mX];exact ⟨fun g=>g.resolve_right (uH n),.inl⟩
 constructor
 ·rintro ⟨id,hid,g⟩;unfold vC at hid;obtain ⟨n,hn,rfl⟩:=List.mem_map.1 hid;rw [List.mem_filter,decide_eq_true_eq] at hn;unfold qP at g;rw [hfind n hn.1] at g;simp only at g;split at g
  ·rename_i e;rw [one] at g;exact ⟨n,hn.1,hn.2.1,hn.2.2,by rw [Pt.ext_iff'];exact ⟨by simp only;omega,e⟩⟩
  · exact absurd g (uH _)
 ·rintro ⟨n,hn,h1,h2,h3⟩;refine ⟨n.id,List.mem_map_of_mem (List.mem_filter.2 ⟨hn,by rw [decide_eq_true_eq];exact ⟨h1,h2⟩⟩),?_⟩;unfold qP;rw [hfind n hn];simp only [h3,if_true];rw [one];omega
end
set_option linter.unusedSectionVars false
def EW (p:Pl) (v:Pt):Prop:=∃ a∈p.ah,∃ k,k+1<(ak p a).length/\iT ((ak p a).getD k aB) ((ak p a).getD (k+1) aB) v
def JY (p:Pl) (b:Option (List Int)) (v:Pt):Prop:=(∀ n∈p.nodes,n.pt≠v)/\¬ EW p v/\dW p v=b
section
variable {p:Pl} (h:Valid p)
include h
theorem Valid.aq5 {n:Nd} (hn:n∈p.nodes) (hd:kV p.ah n.id≠0):EW p n.pt:=by
 have hex:∃ a∈p.ah,a.fr=n.id\/a.dst=n.id:=Classical.byContradiction fun hc=>hd (by
  unfold kV;refine wE _ _ fun a ha=>?_;rw [if_neg (fun e=>hc ⟨a,ha,.inl e⟩),if_neg (fun e=>hc ⟨a,ha,.inr e⟩)];rfl)
 obtain ⟨a,ha,hor⟩:=hex;have hl:=fM p a;have ahL:nodeAt p n.id=n.pt:=h.sound.sH hn;rcases hor with e | e
 ·have e0:(ak p a).getD 0 aB=n.pt:=by rw [yZ,e,ahL]
  refine ⟨a,ha,0,by omega,?_⟩;rw [e0];exact ⟨CZ _ _,by omega⟩
 ·have e0:(ak p a).getD ((ak p a).length-1) aB=n.pt:=by rw [zf,e,ahL]
  refine ⟨a,ha,(ak p a).length-2,by omega,?_⟩;rw [show (ak p a).length-2+1=(ak p a).length-1 by omega,e0];exact ⟨C9 _ _,by omega⟩
theorem Valid.Wq {X:List Int} (hX:X∈aI p) {x y:Int} (nv:aU ⟨x,y⟩=true):fA (tY p (some X) y) x↔JY p (some X) ⟨x,y⟩:=by
 obtain ⟨o1,o2⟩:=h.abH hX x y;have hs:=Qm ((iD p (some X)).flatMap (jl y));have hodd:fA (kT (Dv ((iD p (some X)).flatMap (jl y)))) x↔oM p (oQ (gY p (some X))) ⟨x,y⟩ % 2=1:=by
  rw [<- o2,<- hs.1.countP_eq];exact abE x _ _ rfl hs.2 (by rw [hs.1.length_eq];exact o1)
 have hm:=(O8 _ _ (y7 (kT (Dv ((iD p (some X)).flatMap (jl y))))).1 (y7 ((iD p (some X)).flatMap (oP y)++zC p (some X) y)).1).2.2 x;have hr:fA (tY p (some X) y) x↔oM p (oQ (gY p (some X))) ⟨x,y⟩ % 2=1/\¬ fA ((iD p (some X)).flatMap (oP y)) x/\¬ fA (zC p (some X) y) x:=by
  show fA (pY _ _) x↔_
  rw [hm,(y7 _).2,(y7 _).2,hodd,wu,not_or]
 have htk:fA ((iD p (some X)).flatMap (oP y)) x↔∃ q∈iD p (some X),iT q.1 q.2 ⟨x,y⟩:=by
  rw [abG];constructor
  ·rintro ⟨q,hq,g⟩;obtain ⟨a,ha,-,k,hk,rfl⟩:=h.Wn hX hq;exact ⟨_,hq,(ahH (h.distinct ha hk).1).1 g⟩
  ·rintro ⟨q,hq,g⟩;obtain ⟨a,ha,-,k,hk,rfl⟩:=h.Wn hX hq;exact ⟨_,hq,(ahH (h.distinct ha hk).1).2 g⟩
 rw [hr,htk,h.aq4];have hcl:iy p (oQ (gY p (some X))):=h.ahK fun c hc=>h.Wj hX hc;constructor
 ·rintro ⟨g1,g2,g3⟩;have abI:¬ EW p ⟨x,y⟩:=by
   rintro ⟨a,ha,k,hk,hon⟩;have hn1:∀ c∈gY p (some X),a.id∉c:=fun c hc hm=>g2 ⟨_,h.Wp hX ha hc (.inl hm) hk,hon⟩;have hn2:∀ c∈gY p (some X),-a.id∉c:=fun c hc hm=>g2 ⟨_,h.Wp hX ha hc (.inr hm) hk,hon⟩;have hoff:vw p (oQ (gY p (some X))) ⟨x,y⟩:=fun b hb hne j hj QF=>hne (by
    refine aq3 (fun c hc hm=>?_) (fun c hc hm=>?_)
    · exact g2 ⟨_,h.Wp hX hb hc (.inl hm) hj,QF⟩
    · exact g2 ⟨_,h.Wp hX hb hc (.inr hm) hj,QF⟩)
   have w:=h.apG hcl ha hk nv hon hoff;rw [h.apF hX (ji.2 ⟨a,ha,.inl rfl⟩) hn1] at w;rw [w] at g1
   cases g1
  have w:=h.agZ nv (fun a ha k hk hon=>abI ⟨a,ha,k,hk,hon⟩) hX;have hh:dW p ⟨x,y⟩=some X:=Classical.byContradiction fun c=>by
   rw [w,if_neg c] at g1
   cases g1
  refine ⟨fun n hn e=>?_,abI,hh⟩;by_cases hd:kV p.ah n.id=0
  · exact g3 ⟨n,hn,hd,by rw [e];exact hh,e⟩
  ·have:=h.aq5 hn hd
   rw [e] at this;exact abI this
 ·rintro ⟨g1,g2,g3⟩;have w:=h.agZ nv (fun a ha k hk hon=>g2 ⟨a,ha,k,hk,hon⟩) hX;rw [if_pos g3] at w;refine ⟨by rw [w];rfl,?_,?_⟩
  ·rintro ⟨q,hq,g⟩;obtain ⟨a,ha,-,k,hk,rfl⟩:=h.Wn hX hq;exact g2 ⟨a,ha,k,hk,g⟩
  ·rintro ⟨n,hn,-,-,e⟩;exact g1 n hn e
end
set_option linter.unusedSectionVars false
def Ri (n d:Int):Int:=if 0<d then n / d else (-n) / (-d)
def Ws (n d:Int):Int:=-Ri (-n) d
def zL (y:Int) (q:Pt×Pt):List Int :=
 if y<min q.1.y q.2.y\/max q.1.y q.2.y<y then [] else if q.1.y=q.2.y then [q.1.x,q.2.x]
 else [q.1.x+Ri ((y-q.1.y)*(q.2.x-q.1.x)) (q.2.y-q.1.y),q.1.x+Ws ((y-q.1.y)*(q.2.x-q.1.x)) (q.2.y-q.1.y)]
def Ny (a b:List Int):List Int:=b.foldl BK (VY a)
def JZ (p:Pl):List (Pt×Pt):=p.ah.flatMap fun a=>fU (ak p a)
def abJ (y:Int) (S:List (Pt×Pt)):List Int:=S.foldl (fun l q=>Ny l (zL y q)) []
def Nz (y:Int) (l:List Int) (n:Nd):List Int:=if n.pt.y=y then BK l n.pt.x else l
def H6 (p:Pl) (y:Int):List Int:=p.nodes.foldl (Nz y) (abJ y (JZ p))
theorem ahM:∀ (b l:List Int),l.Pairwise (· < ·)->(b.foldl BK l).Pairwise (· < ·)/\∀ x,x∈b.foldl BK l↔x∈l\/x∈b
 | [],l,h=>⟨h,fun x=>by simp⟩
 | n::b,l,h=>by
  obtain ⟨h1,h2⟩:=aby h n;obtain ⟨h3,h4⟩:=ahM b _ h1;refine ⟨h3,fun x=>?_⟩;rw [List.foldl_cons,h4,h2,List.mem_cons,or_assoc]
theorem aq6 (a b:List Int):(Ny a b).Pairwise (· < ·)/\∀ x,x∈Ny a b↔x∈a\/x∈b:=by
 obtain ⟨h1,h2⟩:=aqK a;obtain ⟨h3,h4⟩:=ahM b _ h1;exact ⟨h3,fun x=>by unfold Ny;rw [h4,h2]⟩
theorem ahN (y:Int):∀ (S:List (Pt×Pt)) (l:List Int),l.Pairwise (· < ·)->(S.foldl (fun l q=>Ny l (zL y q)) l).Pairwise (· < ·)/\∀ x,x∈S.foldl (fun l q=>Ny l (zL y q)) l↔x∈l\/∃ q∈S,x∈zL y q
 | [],l,h=>⟨h,fun x=>by simp⟩
 | q::S,l,_=>by
  obtain ⟨h1,h2⟩:=aq6 l (zL y q);obtain ⟨h3,h4⟩:=ahN y S _ h1;refine ⟨h3,fun x=>?_⟩;rw [List.foldl_cons,h4,h2];simp only [List.mem_cons,exists_eq_or_imp,or_assoc]
theorem ahO (y:Int):∀ (ns:List Nd) (l:List Int),l.Pairwise (· < ·)->(ns.foldl (Nz y) l).Pairwise (· < ·)/\∀ x,x∈ns.foldl (Nz y) l↔x∈l\/∃ n∈ns,n.pt.y=y/\n.pt.x=x
 | [],l,h=>⟨h,fun x=>by simp⟩
 | n::ns,l,h=>by
  have h0:(Nz y l n).Pairwise (· < ·)/\∀ x,x∈Nz y l n↔x∈l\/(n.pt.y=y/\n.pt.x=x):=by
   unfold Nz;split
   ·rename_i e;obtain ⟨h1,h2⟩:=aby h n.pt.x;refine ⟨h1,fun x=>?_⟩;rw [h2];exact or_congr Iff.rfl ⟨fun g=>⟨e,g.symm⟩,fun g=>g.2.symm⟩
   ·rename_i e;exact ⟨h,fun x=>⟨.inl,fun g=>g.resolve_right fun g=>e g.1⟩⟩
  obtain ⟨h3,h4⟩:=ahO y ns _ h0.1;refine ⟨h3,fun x=>?_⟩;rw [List.foldl_cons,h4,h0.2];simp only [List.mem_cons,exists_eq_or_imp,or_assoc]
theorem abK (p:Pl) (y:Int):(H6 p y).Pairwise (· < ·)/\∀ x,x∈H6 p y↔(∃ q∈JZ p,x∈zL y q)\/∃ n∈p.nodes,n.pt.y=y/\n.pt.x=x:=by
 obtain ⟨h1,h2⟩:(abJ y (JZ p)).Pairwise (· < ·)/\∀ x,x∈abJ y (JZ p)↔x∈[]\/∃ q∈JZ p,x∈zL y q:=ahN y (JZ p) [] List.Pairwise.nil;obtain ⟨h3,h4⟩:=ahO y p.nodes _ h1;refine ⟨h3,fun x=>?_⟩;unfold H6;rw [h4];refine or_congr ?_ Iff.rfl;rw [h2];simp
theorem Wu {t H d:Int} (hH:0<H) (h0:0<=t) (h1:t<=H):min 0 d<=t*d / H/\t*d / H<=max 0 d:=by
 rcases Int.le_total 0 d with h | h
 ·have a1:0<=t*d:=Int.mul_nonneg h0 h;have a2:t*d<=H*d:=Int.mul_le_mul_of_nonneg_right h1 h;have a3:0<=t*d / H:=Int.ediv_nonneg a1 (by omega);have a4:t*d / H<=d:=by
   have:=Int.ediv_le_ediv hH a2
   rwa [Int.mul_ediv_cancel_left _ (by omega)] at this
  omega
 ·have a1:t*d<=0:=Int.mul_nonpos_of_nonneg_of_nonpos h0 h;have a2:H*d<=t*d:=by
   have:=Int.mul_le_mul_of_nonpos_right h1 h
   exact this
  have a3:t*d / H<=0:=by
   have:=Int.ediv_le_ediv hH a1
   simpa using this
  have a4:d<=t*d / H:=by
   have:=Int.ediv_le_ediv hH a2
   rwa [Int.mul_ediv_cancel_left _ (by omega)] at this
  omega
theorem aq7 {y:Int} {q:Pt×Pt} {x:Int} (h:x∈zL y q):min q.1.x q.2.x<=x/\x<=max q.1.x q.2.x/\min q.1.y q.2.y<=y/\y<=max q.1.y q.2.y:=by
 obtain ⟨a,b⟩:=q;unfold zL at h;simp only at h ⊢;split at h
 · cases h
 rename_i c0;split at h
 ·rename_i c;simp only [List.mem_cons,List.not_mem_nil,or_false] at h;rcases h with rfl | rfl<;>omega
 ·rename_i c;simp only [List.mem_cons,List.not_mem_nil,or_false] at h;unfold Ws Ri at h;by_cases e:0<b.y-a.y
  ·have f1:=Wu (t:=y-a.y) (H:=b.y-a.y) (d:=b.x-a.x) e (by omega) (by omega);have f2:=Wu (t:=y-a.y) (H:=b.y-a.y) (d:=-(b.x-a.x)) e (by omega) (by omega);rw [if_pos e,if_pos e] at h;rw [Int.mul_neg] at f2;rcases h with h | h<;>omega
  ·have f1:=Wu (t:=-(y-a.y)) (H:=-(b.y-a.y)) (d:=b.x-a.x) (by omega) (by omega) (by omega);have f2:=Wu (t:=-(y-a.y)) (H:=-(b.y-a.y)) (d:=-(b.x-a.x)) (by omega) (by omega) (by omega);rw [if_neg e,if_neg e] at h;rw [Int.neg_mul] at f1;rw [Int.neg_mul,Int.mul_neg] at f2;rcases h with h | h<;>omega
theorem aq8 {u H d:Int} (hH:0<H):(u-H*d) / H=u / H-d:=by
 have:u-H*d=u+(-d)*H:=by rw [Int.neg_mul,Int.mul_comm H d];omega
 rw [this,Int.add_mul_ediv_right _ _ (by omega)];omega
theorem aq9 {y:Int} {a b:Pt} (h1:(iG a b).y<=y) (h2:y<=(jF a b).y) (h3:(iG a b).y≠(jF a b).y):(iG a b).x+zB y a b∈zL y (a,b):=by
 unfold zL zB;unfold iG jF at *;by_cases c:b.y<a.y
 ·simp only [if_pos c] at h1 h2 h3 ⊢;rw [if_neg (by omega),if_neg (by omega)];simp only [List.mem_cons,List.not_mem_nil,or_false]
  right;unfold Ws Ri rJ;rw [if_neg (by omega)];have e:-(-((y-a.y)*(b.x-a.x)))=-((y-b.y)*(a.x-b.x))-(a.y-b.y)*(b.x-a.x):=by grind
  have e2:-(b.y-a.y)=a.y-b.y:=by omega
  rw [e,e2,aq8 (by omega)];omega
 ·simp only [if_neg c] at h1 h2 h3 ⊢;rw [if_neg (by omega),if_neg (by omega)];simp only [List.mem_cons,List.not_mem_nil,or_false]
  right;unfold Ws Ri rJ;rw [if_pos (by omega)]
theorem ahP {y:Int} {q:Pt×Pt} {c:Int} (h:c∈jl y q):c∈zL y q:=by
 obtain ⟨a,b⟩:=q;unfold jl at h;simp only at h;split at h
 ·rename_i e;rw [List.mem_singleton] at h;rw [h];exact aq9 e.1 (by omega) (by omega)
 · cases h
section
variable {p:Pl} (h:Valid p)
include h
theorem Valid.ahQ {X:List Int} (hX:X∈aI p) {x y:Int}:fA (tY p (some X) y) x↔((iD p (some X)).flatMap (jl y)).countP (fun c=>decide (c<=x)) % 2=1/\¬ fA ((iD p (some X)).flatMap (oP y)) x/\¬ fA (zC p (some X) y) x:=by
 obtain ⟨o1,o2⟩:=h.abH hX x y;have hs:=Qm ((iD p (some X)).flatMap (jl y));have hodd:fA (kT (Dv ((iD p (some X)).flatMap (jl y)))) x↔((iD p (some X)).flatMap (jl y)).countP (fun c=>decide (c<=x)) % 2=1:=by
  rw [<- hs.1.countP_eq];exact abE x _ _ rfl hs.2 (by rw [hs.1.length_eq];exact o1)
 have hm:=(O8 _ _ (y7 (kT (Dv ((iD p (some X)).flatMap (jl y))))).1 (y7 ((iD p (some X)).flatMap (oP y)++zC p (some X) y)).1).2.2 x
 show fA (pY _ _) x↔_
 rw [hm,(y7 _).2,(y7 _).2,hodd,wu,not_or]
theorem Valid.ahR {X:List Int} (hX:X∈aI p) {q:Pt×Pt} (hq:q∈iD p (some X)):q∈JZ p:=by
 obtain ⟨a,ha,-,k,hk,rfl⟩:=h.Wn hX hq;refine List.mem_flatMap.2 ⟨a,ha,?_⟩;unfold fU;exact List.mem_map.2 ⟨k,List.mem_range.2 (by omega),rfl⟩
theorem Valid.ara {X:List Int} (hX:X∈aI p) {x y:Int} (hb:∀ b∈H6 p y,b<x):¬ fA (tY p (some X) y) x:=fun g=>by
 have hm:=(abK p y).2;have g1:=((h.ahQ hX).1 g).1;have e1:((iD p (some X)).flatMap (jl y)).countP (fun c=>decide (c<=x))=((iD p (some X)).flatMap (jl y)).length:=by
  rw [List.countP_eq_length];intro c hc;obtain ⟨q,hq,g⟩:=List.mem_flatMap.1 hc;have:=hb c ((hm c).2 (.inl ⟨q,h.ahR hX hq,ahP g⟩))
  simp only [decide_eq_true_eq];omega
 rw [e1,(h.abH hX x y).1] at g1
 cases g1
theorem Valid.arb {X:List Int} (hX:X∈aI p) {x y:Int} (hb:∀ b∈H6 p y,x<b):¬ fA (tY p (some X) y) x:=fun g=>by
 have hm:=(abK p y).2;have g1:=((h.ahQ hX).1 g).1;have e1:((iD p (some X)).flatMap (jl y)).countP (fun c=>decide (c<=x))=0:=by
  rw [List.countP_eq_zero];intro c hc;obtain ⟨q,hq,g⟩:=List.mem_flatMap.1 hc;have:=hb c ((hm c).2 (.inl ⟨q,h.ahR hX hq,ahP g⟩))
  simp only [decide_eq_true_eq];omega
 rw [e1] at g1
 cases g1
theorem Valid.ahS {x y:Int} (hx:x∈H6 p y):aU ⟨x,y⟩=true/\qc ⟨x,y⟩:=by
 have hbig:qc ⟨x,y⟩:=by
  rcases ((abK p y).2 x).1 hx with ⟨q,hq,g⟩ | ⟨n,hn,e1,e2⟩
  ·obtain ⟨a,ha,hq⟩:=List.mem_flatMap.1 hq;obtain ⟨k,hk,rfl⟩:=List.mem_map.1 (show q∈(List.range ((ak p a).length-1)).map _ from hq);rw [List.mem_range] at hk;have b1:=h.Vr ha (k:=k) (by omega);have b2:=h.Vr ha (k:=k+1) (by omega);have:=aq7 g
   unfold qc at *;simp only at *;omega
  ·have:=h.agS hn
   unfold qc at *;simp only;omega
 refine ⟨?_,hbig⟩;unfold aU qc at *;simp only [Bool.and_eq_true,decide_eq_true_eq];simp only at hbig;omega
theorem Valid.Wv {X:List Int} (hX:X∈aI p) {x y:Int} (g:fA (tY p (some X) y) x):aU ⟨x,y⟩=true:=by
 have hbx:∃ a∈H6 p y,a<=x:=Classical.byContradiction fun c=>h.arb hX (fun b hb=>Int.not_le.1 fun g=>c ⟨b,hb,g⟩) g;have hby:∃ a∈H6 p y,x<=a:=Classical.byContradiction fun c=>h.ara hX (fun b hb=>Int.not_le.1 fun g=>c ⟨b,hb,g⟩) g;obtain ⟨a,ha,ha'⟩:=hbx;obtain ⟨b,hb,hb'⟩:=hby;have g1:=(h.ahS ha).2;have g2:=(h.ahS hb).2;unfold qc at g1 g2;unfold aU;simp only [Bool.and_eq_true,decide_eq_true_eq];simp only at g1 g2;omega
end
def Wx (PP:List Pt) (v:Pt) (i:Nat):Bool:=match PP[i]?,PP[i+1]? with
 | some a,some b=>fJ a b v
 | _,_=>false
def uj (PP:List Pt) (v:Pt) (k:Nat):Bool:=(List.range k).any (Wx PP v)
def kY (p:Pl) (v:Pt) (a:Ar):Bool:=uj (ak p a) v ((ak p a).length-1)
def ou (p:Pl) (v:Pt):Int×Int×Int :=
 if iV p≠0 then (0,0,iV p) else if lZ v=false then (0,0,2) else
 match p.nodes.find? (fun n=>decide (n.pt=v)) with
 | some n=>(1,n.id,0)
 | none=>match p.ah.find? (kY p v) with
  | some a=>(2,a.id,0)
  | none=>(0,ku p (dW p v),0)
def J3 (t:Int×Int×Int):Value:=.tuple #[.int .i64 t.1,.int .i64 t.2.1,.int .i64 t.2.2]
theorem Wy {PP:List Pt} {v:Pt} {i:Nat} (h:i+1<PP.length):Wx PP v i=fJ (PP[i]'(by omega)) PP[i+1] v:=by
 unfold Wx;rw [List.getElem?_eq_getElem h,List.getElem?_eq_getElem (show i<PP.length by omega)]
theorem WA (PP:List Pt) (v:Pt) (k:Nat):uj PP v (k+1)=(uj PP v k || Wx PP v k):=by
 unfold uj;rw [List.range_succ,List.any_append];simp
theorem ard {PP:List Pt} {v:Pt} {k m:Nat} (hk:k<=m) (h:uj PP v k=true):uj PP v m=true:=by
 unfold uj at *;rw [List.any_eq_true] at *;obtain ⟨i,hi,e⟩:=h;exact ⟨i,List.mem_range.2 (Nat.lt_of_lt_of_le (List.mem_range.1 hi) hk),e⟩
theorem ahT {α:Type} {P:α->Bool} {l:List α} {k:Nat} (hk:k<l.length) (h:(l.take k).find? P=none) (hn:P l[k]=false):(l.take (k+1)).find? P=none:=by
 rw [List.take_succ_eq_append_getElem hk,List.find?_append,h];simp [hn]
theorem ahU {α:Type} {P:α->Bool} {l:List α} {k:Nat} (hk:k<l.length) (h:(l.take k).find? P=none) (hn:P l[k]=true):l.find? P=some l[k]:=by
 have e:l.find? P=(l.take k++l[k]::l.drop (k+1)).find? P:=by rw [<- List.drop_eq_getElem_cons hk,List.take_append_drop]
 rw [e,List.find?_append,h];simp only [Option.none_or,List.find?_cons,hn]
section
variable {p:Pl} {v:Pt} (h0:iV p=0) (h1:lZ v=true)
include h0 h1
theorem arf {k:Nat} (hk:k<p.nodes.length) (h:(p.nodes.take k).find? (fun n=>decide (n.pt=v))=none) (he:p.nodes[k].pt=v):ou p v=(1,p.nodes[k].id,0):=by
 unfold ou;rw [if_neg (by simpa using h0),if_neg (by simp [h1]),ahU hk h (by simpa using he)]
theorem arh (hn:p.nodes.find? (fun n=>decide (n.pt=v))=none) {k:Nat} (hk:k<p.ah.length) (h:(p.ah.take k).find? (kY p v)=none) (he:kY p v p.ah[k]=true):ou p v=(2,p.ah[k].id,0):=by
 unfold ou;rw [if_neg (by simpa using h0),if_neg (by simp [h1]),hn];simp only;rw [ahU hk h he]
theorem ari (hn:p.nodes.find? (fun n=>decide (n.pt=v))=none) (ha:p.ah.find? (kY p v)=none):ou p v=(0,ku p (dW p v),0):=by
 unfold ou;rw [if_neg (by simpa using h0),if_neg (by simp [h1]),hn];simp only;rw [ha]
end
set_option maxHeartbeats 400000 in
theorem ahV (p:Pt) (w:World):Calls Tryz.prog 69 #[bg p] w fun e w'=>e=.returned (.bool (lZ p))/\Below w.heap.size w w':=by
 unfold bg;go_enter Tryz.func69,Tryz.ntmps69;go_wp2_with fail
 all_goals
  go_ret;refine ⟨eu (by rw [lZ,Bool.eq_iff_iff];simp only [Bool.and_eq_true,decide_eq_true_eq,true_iff,Bool.false_eq_true,false_iff];omega),?_⟩
  repeat (first | with_reducible exact bR _ | with_reducible assumption | with_reducible refine bA ?_ _ | with_reducible refine bD ?_ | with_reducible refine bN ?_ _ | ((with_reducible refine bS ?_ ?_ _);rotate_left;(simp;try omega)) | ((with_reducible refine bT ?_ ?_);rotate_left;with_reducible assumption) | with_reducible refine bT ?_ (by assumption))
set_option maxRecDepth 100000 in
set_option maxHeartbeats 8000000 in
theorem arj (v:Value) (p:Pl) (at_:Pt) (w:World) (h:dS w v p) (hv:iV p≠0):Calls Tryz.prog 24 #[v,bg at_] w fun e w'=>e=.returned (J3 (0,0,iV p))/\Below w.heap.size w w':=by
 have HC:=Lib.hid (fun W (hW:Below w.heap.size w W)=>aqV v p W (h.mono hW) hv);obtain ⟨vn,va,vf,al,rfl,-⟩:=h;generalize iV p=z at *;have hb:(z != 0)=true:=by simpa using hv
 unfold bg;clear hv;go_enter Tryz.func24,Tryz.ntmps24;go_wp2_with fail;refine (HC.out _ (bA (bA (bR w) _) _)).mono ?_;rintro e w1 ⟨rfl,hb1⟩;have HB1:=Lib.hid (bT (bA (bA (bR w) _) _) hb1);clear hb1 HC;go_wp2_with fail;exact bodyPost_ret (results_tmp3 rfl _ _ _) rfl ⟨rfl,HB1.out⟩
set_option maxRecDepth 100000 in
set_option maxHeartbeats 8000000 in
theorem ark (v:Value) (p:Pl) (at_:Pt) (w:World) (h:dS w v p) (hv:iV p=0) (hk:lZ at_=false):Calls Tryz.prog 24 #[v,bg at_] w fun e w'=>e=.returned (J3 (0,0,2))/\Below w.heap.size w w':=by
 have HC:=Lib.hid (fun W (hW:Below w.heap.size w W)=>Wi v p W (h.mono hW) hv);have H8:=Lib.hid (fun W=>ahV at_ W);rw [hk] at H8;obtain ⟨vn,va,vf,al,rfl,-⟩:=h;unfold bg at H8 ⊢;clear hv hk;go_enter Tryz.func24,Tryz.ntmps24;go_upto_region 1 with fail;obtain ⟨W1,hW⟩:∃ W1:World,W1=(w.alloc (.cells #[vn,va,vf] 26)).alloc (.cells #[.int .i64 at_.x,.int .i64 at_.y] 39):=⟨_,rfl⟩;have X1:aj W1 w.heap.size 26 #[vn,va,vf]:=by rw [hW];exact (aj.made rfl _ _).alloc _
 have X2:aj W1 (w.heap.size+1) 39 #[.int .i64 at_.x,.int .i64 at_.y]:=by rw [hW];exact aj.made (by simp) _ _
 have HB1:=Lib.hid (show Below w.heap.size w W1 by rw [hW];exact bA (bA (bR w) _) _);rw [<- hW];clear hW;have fK:=Lib.hid X1;have bU:=Lib.hid X2;obtain ⟨aO,aP,aS,aT,-,-,-⟩:=X1.aY;go_wp2_with fail;refine (HC.out _ HB1.out).mono ?_;rintro e w1 ⟨A,c,L,A',c',gm,f,rfl,hb1,-⟩;have HB2:=Lib.hid (bT HB1.out hb1);have X3:=bU.out.keep hb1;clear hb1 HC X1 aO aP aS aT fK bU X2 HB1;obtain ⟨lM,lN,nN,-,-⟩:=X3.bH;go_wp2_with fail;refine (H8.out _).mono ?_;rintro e w3 ⟨rfl,hb3⟩;have HB3:=Lib.hid (bT HB2.out hb3);clear hb3;go_wp2_with fail;exact bodyPost_ret (results_tmp3 rfl _ _ _) rfl ⟨rfl,HB3.out⟩
set_option maxRecDepth 100000 in
set_option maxHeartbeats 8000000 in
theorem arl (v:Value) (p:Pl) (at_:Pt) (w:World) (h:dS w v p) (hv:iV p=0) (hk:lZ at_=true):Calls Tryz.prog 24 #[v,bg at_] w fun e w'=>e=.returned (J3 (ou p at_))/\Below w.heap.size w w':=by
 obtain ⟨hvv,hfb⟩:=Nw hv;have HV:=Lib.hid hvv;have nv:=TU hk;have HLn:=Lib.hid (fun k (hl:k<p.nodes.length) hf he=>arf (v:=at_) hv hk hl hf he);have HLa:=Lib.hid (fun hn k (hl:k<p.ah.length) hf he=>arh (v:=at_) hv hk hn hl hf he);have HLf:=Lib.hid (fun hn ha=>ari (v:=at_) hv hk hn ha);have HC:=Lib.hid (fun W (hW:Below w.heap.size w W)=>Wi v p W (h.mono hW) hv);have H8:=Lib.hid (fun W=>ahV at_ W);have nZ:=Lib.hid (fun a b W=>KC a b at_ W);have G6:=Lib.hid (fun W gm f (hpm:rO W gm p f) vl L (hL:JC W vl L) hd hl=>agt W gm p f hpm hvv vl L hL hd hl at_ nv);have hol:(aI p).length<=512:=Nat.le_trans (List.length_filter_le _ _) hvv.GU;rw [hk] at H8;obtain ⟨_,_,_,al,rfl,hpa,⟨An,cn,rfl,hn1,hn2,J4⟩,⟨⟨Aa,ca,rfl,ha1,ha2,jy⟩,Bg⟩,⟨Af,cf,rfl,-⟩⟩:=h;unfold maxLen at hn2 ha2;generalize p.faces.length=nf at *;have hal:al.length=p.ah.length:=by rw [hpa,List.length_map]
 have hqn:p.nodes.length<=256:=hvv.Qk;have hqa:p.ah.length<=256:=by
  have hl:=hvv.lim;unfold lY at hl;simp at hl;omega
 have HRn:=Lib.hid J4;have lK:=Lib.hid jy;have Dl:=Lib.hid Bg;have vF:=Lib.hid hpa;have wI:=Lib.hid hal;have ave:al.length<=256:=by omega
 unfold bg at H8 nZ G6 ⊢;clear hv hk hvv hfb J4 jy Bg hpa nv hal;go_enter Tryz.func24,Tryz.ntmps24;go_upto_region 1 with fail;obtain ⟨W1,hW⟩:∃ W1:World,W1=(w.alloc (.cells #[.slice An p.nodes.length cn,.slice Aa al.length ca,.slice Af nf cf] 26)).alloc (.cells #[.int .i64 at_.x,.int .i64 at_.y] 39):=⟨_,rfl⟩;have X1:aj W1 w.heap.size 26 #[.slice An p.nodes.length cn,.slice Aa al.length ca,.slice Af nf cf]:=by rw [hW];exact (aj.made rfl _ _).alloc _
 have X2:aj W1 (w.heap.size+1) 39 #[.int .i64 at_.x,.int .i64 at_.y]:=by rw [hW];exact aj.made (by simp) _ _
 have HB1:=Lib.hid (show Below w.heap.size w W1 by rw [hW];exact bA (bA (bR w) _) _);rw [<- hW];clear hW;have fK:=Lib.hid X1;have bU:=Lib.hid X2;obtain ⟨aO,aP,aS,aT,-,-,-⟩:=X1.aY;go_wp2_with fail;refine (HC.out _ HB1.out).mono ?_;rintro e w1 ⟨A,c,L,A',c',gm,f,rfl,hb1,xB,hfi,hdv,htw,hpm,hgm,-⟩;have HB2:=Lib.hid (bT HB1.out hb1);have EX:=Lib.hid (fK.out.keep hb1);have J5:=Lib.hid (bU.out.keep hb1);have X3:=J5.out;have HA:=Lib.hid xB;have HD:=Lib.hid hdv;have HT:=Lib.hid htw;have ng:=Lib.hid hpm;have hll:L.length=(aI p).length+1:=hdv.len;have hfl:=yE p (aI p) L.length;obtain ⟨Al,cl,hel,hl2,hl3,hRl⟩:=xB.sl;injection hel with y1 y2 y3;subst y1 y3;clear y2;unfold Ints at hfi;rw [hfl] at hfi;obtain ⟨Af',cf',hef,hf2,hf3,Hy⟩:=hfi;injection hef with y1 y2 y3;subst y1 y3;clear y2;have DK:=Lib.hid Hy;clear hb1 HC X1 aO aP aS aT fK bU X2 HB1 xB hdv htw hpm hRl Hy hl2 hl3 hf2 hf3 hfl;obtain ⟨lM,lN,nN,-,-⟩:=X3.bH;go_wp2_with fail;refine (H8.out _).mono ?_;rintro e w3 ⟨rfl,hb3⟩;have HB3:=Lib.hid (bT HB2.out hb3);have fK:=Lib.hid (EX.out.keep hb3);have bU:=Lib.hid (J5.out.keep hb3);have rQ:=Lib.hid (HA.out.mono hb3);have Q8:=Lib.hid (ng.out.keep hb3);have ahW:=Lib.hid (DK.out.mono hb3);clear hb3 X3 lM lN nN EX J5 HA ng DK HB2 H8;have X1:=fK.out
 try clear aO
 try clear aP
 try clear aS
 try clear aT
 obtain ⟨aO,aP,aS,aT,-,-,-⟩:=X1.aY;go_upto_block 0 with fail;clear X1 aO aP aS aT;go_wp2_with fail;go_loopw [32] (fun u wr=>∃ k:Nat,k<=p.nodes.length/\u=.int .i64 k/\(p.nodes.take k).find? (fun n=>decide (n.pt=at_))=none/\Below w3.heap.size w3 wr) (fun u _=>p.nodes.length-(intOf u).toNat)
 case atStart => exact ⟨0,Nat.zero_le _,rfl,rfl,bR w3⟩
 case round =>
  obtain ⟨k,hk,rfl,hno,hb⟩:=hrel;obtain ⟨wo,rfl⟩:∃ wo:World,wo=wr:=⟨_,rfl⟩;have qN:=Lib.hid hno;have Hb:=Lib.hid hb;clear hno hb;by_cases hlt:k<p.nodes.length
  ·obtain ⟨b,o,hA',hlb,c0,c1,c2⟩:=(HRn.out.mono (bT HB3.out Hb.out)).nd hlt;subst hA';have X2:=bU.out.keep Hb.out;have hx2:=X2.lt;have wJ:=Lib.hid (fun he=>HLn.out k hlt qN.out he);have CX:=Lib.hid (fun hne=>ahT hlt qN.out hne);generalize p.nodes[k]=x at *;obtain ⟨id,x0,y0⟩:=x;simp only at c0 c1 c2;have Qy:(k:Int)<p.nodes.length:=by omega
   have Qz:0<=(k:Int):=by omega
   obtain ⟨cu,cO,dH,-,-⟩:=X2.bH;go_upto_region 9 with fail;obtain ⟨W5,hW⟩:∃ W:World,W=wo.alloc (.cells #[.int .i64 id,.int .i64 x0,.int .i64 y0] 45):=⟨_,rfl⟩;obtain ⟨g11,WB⟩:∃ g11,wo.heap.size=g11:=⟨_,rfl⟩;have X5:aj W5 g11 45 #[.int .i64 id,.int .i64 x0,.int .i64 y0]:=by rw [hW];exact aj.made WB.symm _ _
   have X6:aj W5 (w.heap.size+1) 39 #[.int .i64 at_.x,.int .i64 at_.y]:=by rw [hW];exact X2.alloc _
   have rP:=Lib.hid (show Below w.heap.size w W5 by rw [hW];exact bA (bT HB3.out Hb.out) _);have HBg:=Lib.hid (show Below w3.heap.size w3 W5 by rw [hW];exact bA Hb.out _);rw [<- hW]
   try rw [WB]
   clear hW c0 c1 c2 hlb X2 cu cO dH Hb;obtain ⟨dw,dB,dL,jK,-,-,-⟩:=X5.aY;obtain ⟨jd,jf,jg,-,-⟩:=X6.bH;by_cases he:(⟨x0,y0⟩:Pt)=at_
   ·have hr:=Lib.hid (wJ.out he);have he1:x0=at_.x:=by rw [<- he]
    have he2:y0=at_.y:=by rw [<- he]
    subst he1 he2;go_upto_region 10 with fail;refine cZ (Since W5) (.run 5 0 0 (.done)) (by kernel_rfl) (bD (bR _)) (by kernel_rfl) (by kernel_rfl) (Nat.le_of_ble_eq_true (by kernel_rfl)) ?_;intro dn QR au aC hS
    iterate 5
     apply bn;exact au;exact rfl;exact hS;exact rfl
     · intro _ hqc;go_simp;try rfl
     try simp only [pu]
    refine bQ ?_;refine aC.down _ _ ?_;have hB:Below W5.heap.size W5 W5.drew:=hS;clear hS aC au;go_wp2_with fail;exact bodyPost_ret (results_tmp3 rfl _ _ _) rfl ⟨by rw [hr.out];rfl,bT rP.out hB⟩
   ·have hne:¬ (x0=at_.x/\y0=at_.y):=fun e=>he (by rw [e.1,e.2]);have hr:=Lib.hid (CX.out (by simpa using he));go_wp2_with fail
    all_goals
     refine ⟨⟨k+1,by omega,rfl,hr.out,HBg.out⟩,?_⟩;simp [intOf];omega
  ·obtain rfl:k=p.nodes.length:=by omega
   have hnn:=qN.out;rw [List.take_length] at hnn;have DL:=Lib.hid hnn;have HB4:=Lib.hid (bT HB3.out Hb.out);have X1:=fK.out.keep Hb.out;have dI:=Lib.hid (bU.out.keep Hb.out);have lF:=Lib.hid (rQ.out.mono Hb.out);have Nv:=Lib.hid (Q8.out.keep Hb.out);have ahX:=Lib.hid (ahW.out.mono Hb.out);clear hnn qN Hb HB3 fK bU rQ Q8 ahW HLn
   try clear aO
   try clear aP
   try clear aS
   try clear aT
   obtain ⟨aO,aP,aS,aT,-,-,-⟩:=X1.aY;go_upto_block 2 with fail;clear X1 aO aP aS aT;go_wp2_with fail;go_loopw [46] (fun u wr=>∃ k:Nat,k<=al.length/\u=.int .i64 k/\(p.ah.take k).find? (kY p at_)=none/\Below wo.heap.size wo wr) (fun u _=>al.length-(intOf u).toNat)
   case atStart => exact ⟨0,Nat.zero_le _,rfl,rfl,bR wo⟩
   case round =>
    obtain ⟨k,hk,rfl,hno,hb⟩:=hrel;obtain ⟨wq,rfl⟩:∃ wq:World,wq=wr:=⟨_,rfl⟩;have qN:=Lib.hid hno;have Hb:=Lib.hid hb;clear hno hb;by_cases hlt:k<al.length
    ·have hkp:k<p.ah.length:=by rw [<- wI.out];exact hlt
     have hax:p.ah[k]=al[k].1:=by
      have e:p.ah[k]? = some al[k].1:=by rw [vF.out,List.getElem?_map,List.getElem?_eq_getElem hlt];rfl
      rw [List.getElem?_eq_getElem hkp] at e;exact Option.some.inj e
     have ham:p.ah[k]∈p.ah:=List.getElem_mem hkp;have hid:=HV.out.jB ham;have hlen:=fM p p.ah[k];have uY:=HV.out.y9 ham;obtain ⟨b,o,hA',hlb,c0,c1,c2,c3,c4,c5⟩:=(lK.out.mono (bT HB4.out Hb.out)).ar hlt;subst hA';have sV:=Lib.hid (fun he=>HLa.out DL.out k hkp qN.out he);have wQ:=Lib.hid (fun hne=>ahT hkp qN.out hne);obtain ⟨nm,hmp⟩:=(Nv.out.keep Hb.out).mp;have lT:=(Nv.out.keep Hb.out).rd _ ham;have hax':=hax;have hlk:∀ W,Below wq.heap.size wq W->_:=fun W hW=>(hmp.keep hW).look p.ah[k].id (oV (by omega) (by omega));have NC:=Lib.hid hlk;rw [<- hax] at c0 c1 c2 c4 c5;unfold kY at sV wQ;generalize f p.ah[k].id=y at *;generalize ak p p.ah[k]=PP at *;generalize p.ah[k]=ax at *;obtain ⟨Av,cv,hva,-⟩:=Dl.out k hlt;rw [hva] at c3;generalize al[k].1.via.length=nv' at *;clear hva;obtain ⟨ai,af,ad,av,af1,af2⟩:=ax;obtain ⟨Ap,np,cp⟩:=y;unfold aJ at hlk NC lT;have Du:=Lib.hid lT;obtain ⟨Jl,cp',he,hp1,hp2,-⟩:=lT;injection he with y1 y2 y3;subst y1 y2 y3;unfold maxLen at hp2;simp only at hid hlen uY c0 c1 c2 c3 c4 c5;have arn:2<=PP.length:=by omega
     have hpl2:PP.length<=66:=by omega
     clear hax hax' ham hmp hlk hlen uY;have Qy:(k:Int)<al.length:=by omega
     have Qz:0<=(k:Int):=by omega
     go_upto_region 15 with fail;obtain ⟨W5,hW⟩:∃ W:World,W=wq.alloc (.cells #[.int .i64 ai,.int .i64 af,.int .i64 ad,.slice Av nv' cv,.int .i64 af1,.int .i64 af2] 50):=⟨_,rfl⟩;obtain ⟨g13,ahY⟩:∃ g13,wq.heap.size=g13:=⟨_,rfl⟩;have X5:aj W5 g13 50 #[.int .i64 ai,.int .i64 af,.int .i64 ad,.slice Av nv' cv,.int .i64 af1,.int .i64 af2]:=by rw [hW];exact aj.made ahY.symm _ _
     have hA:Below wq.heap.size wq W5:=by rw [hW];exact bA (bR wq) _
     have dM:=Lib.hid (bT (bT HB4.out Hb.out) hA);have Rj:=Lib.hid (bT Hb.out hA);have aro:=Lib.hid (dI.out.keep (bT Hb.out hA));have abm:=Lib.hid X5;have hlk:=NC.out W5 hA;have DN:=Lib.hid (Du.out.mono hA);rw [<- hW]
     try rw [ahY]
     clear hW hA c0 c1 c2 c3 c4 c5 hlb NC Du Hb
     try clear dw
     try clear dB
     try clear dL
     try clear jK
     obtain ⟨dw,dB,dL,jK,yT,OH,OI,-,-,-,-,-,-⟩:=X5.kZ;go_upto_block 4 with fail;clear X5 dw dB dL jK yT OH OI hlk;go_wp2_with fail;go_loopw [15] (fun u wr=>∃ m:Nat,m+1<=PP.length/\u=.int .i64 ((m:Int)+1)/\uj PP at_ m=false/\Below W5.heap.size W5 wr) (fun u _=>PP.length-(intOf u).toNat)
     case atStart => exact ⟨0,by omega,rfl,rfl,bR W5⟩
     case round =>
      obtain ⟨m,hm,rfl,hnm,hb⟩:=hrel;obtain ⟨wm,rfl⟩:∃ wm:World,wm=wr:=⟨_,rfl⟩;have yx:=Lib.hid hnm;have uO:=Lib.hid hb;clear hnm hb;by_cases hmt:m+1<PP.length
      ·obtain ⟨Jl,cp',he,-,-,tK⟩:=DN.out.mono uO.out;injection he with y1 y2 y3;subst y1 y3;clear y2;obtain ⟨bp,op,lU,hlp,d0,d1⟩:=tK.pt (show m<PP.length by omega);obtain ⟨bp',op',nC,-,d2,d3⟩:=tK.pt hmt;rw [lU] at nC;injection nC with nC;injection nC with q1 q2 _;subst q1 q2 lU;have hoi:=Wy (v:=at_) hmt;generalize PP[m+1]=pb at *;generalize PP[m]=pa at *;obtain ⟨xa,ya⟩:=pa;obtain ⟨xb,yb⟩:=pb;simp only at d0 d1 d2 d3;have X6:=aro.out.keep uO.out;have X7:=abm.out.keep uO.out;have kX:=Lib.hid X7;have hx6:=X6.lt;have hx7:=X7.lt;have Vh:((m:Int)+1)<PP.length:=by omega
       have QA:0<=(m:Int):=by omega
       have kk5:(m:Int)<PP.length:=by omega
       have kw:IntKind.i64.wrap (m:Int)=m:=IntWalk.i64_in _ (by omega)
       try clear jd
       try clear jf
       try clear jg
       obtain ⟨jd,jf,jg,-,-⟩:=X6.bH
       cases hon:fJ ⟨xa,ya⟩ ⟨xb,yb⟩ at_ with
       | true =>
        have HO:=Lib.hid (fun W=>nZ.out ⟨xa,ya⟩ ⟨xb,yb⟩ W);rw [hon] at HO;have hua:uj PP at_ (PP.length-1)=true:=ard (k:=m+1) (by omega) (by rw [WA,hoi,hon,Bool.or_true]);have hr:=Lib.hid (sV.out hua);clear hon hoi hua sV wQ;go_upto_region 19 with fail;refine cZ (Since wm) (.run 10 0 0 (.call 10 2047 (.done))) (by kernel_rfl) (bD (bR _)) (by kernel_rfl) (by kernel_rfl) (Nat.le_of_ble_eq_true (by kernel_rfl)) ?_;intro dn QR au aC hS
        iterate 10
         apply bn;exact au;exact rfl;exact hS;exact rfl
         · intro _ hqc;go_simp;try rfl
         try simp only [pu]
        refine aW (i:=10) (aH au rfl) (fun K hK=>?_);have aA:=Lib.hid hS;clear hS;refine aN (aV rfl) ?_;go_simp;refine (HO.out _).mono ?_;rintro e bC ⟨rfl,bM⟩;have hS:Since wm bC:=bT (w:=wm) aA.out bM;clear aA;refine hK.out _ _ hS (fun _=>?_);clear hK K
        try simp only [pu]
        refine bQ ?_;refine aC.down _ _ ?_;have hB:Below wm.heap.size wm bC:=hS;clear hS aC au;have gZ:=Lib.hid (bT (bT dM.out uO.out) hB);have X8:=kX.out.keep hB;clear X6 jd jf jg d0 d1 d2 d3 hlp hB HO X7;obtain ⟨qY,qZ,qF,YQ,X8d,X8e,X8f,-,-,-,-,-,-⟩:=X8.kZ;go_upto_region 20 with fail;refine cZ (Since bC) (.run 5 0 0 (.done)) (by kernel_rfl) (bD (bR _)) (by kernel_rfl) (by kernel_rfl) (Nat.le_of_ble_eq_true (by kernel_rfl)) ?_;intro dn QR au aC hS
        iterate 5
         apply bn;exact au;exact rfl;exact hS;exact rfl
         · intro _ hqc;go_simp;try rfl
         try simp only [pu]
        refine bQ ?_;refine aC.down _ _ ?_;have hB:Below bC.heap.size bC bC.drew:=hS;clear hS aC au;go_wp2_with fail;exact bodyPost_ret (results_tmp3 rfl _ _ _) rfl ⟨by rw [hr.out];rfl,bT gZ.out hB⟩
       | false =>
        have HO:=Lib.hid (fun W=>nZ.out ⟨xa,ya⟩ ⟨xb,yb⟩ W);rw [hon] at HO;have hr:=Lib.hid (show uj PP at_ (m+1)=false by rw [WA,hoi,hon,yx.out];rfl);clear hon hoi sV wQ;go_upto_region 19 with fail;refine cZ (Since wm) (.run 10 0 0 (.call 10 2047 (.done))) (by kernel_rfl) (bD (bR _)) (by kernel_rfl) (by kernel_rfl) (Nat.le_of_ble_eq_true (by kernel_rfl)) ?_;intro dn QR au aC hS
        iterate 10
         apply bn;exact au;exact rfl;exact hS;exact rfl
         · intro _ hqc;go_simp;try rfl
         try simp only [pu]
        refine aW (i:=10) (aH au rfl) (fun K hK=>?_);have aA:=Lib.hid hS;clear hS;refine aN (aV rfl) ?_;go_simp;refine (HO.out _).mono ?_;rintro e bC ⟨rfl,bM⟩;have hS:Since wm bC:=bT (w:=wm) aA.out bM;clear aA;refine hK.out _ _ hS (fun _=>?_);clear hK K
        try simp only [pu]
        refine bQ ?_;refine aC.down _ _ ?_;have hB:Below wm.heap.size wm bC:=hS;clear hS aC au;have tZ:=Lib.hid (bT uO.out hB);clear X6 jd jf jg d0 d1 d2 d3 hlp hB HO X7;go_wp2_with fail;go_roundw
        case rel => exact ⟨m+1,by omega,by go_num,hr.out,tZ.out⟩
        case measure => simp [intOf];omega
      ·obtain rfl:m=PP.length-1:=by omega
       have hr:=Lib.hid (wQ.out yx.out);have zM:=Lib.hid (bT Rj.out uO.out);clear sV wQ yx nZ uO;go_wp2_with fail;go_roundw
       case rel => exact ⟨k+1,by omega,by go_num,hr.out,zM.out⟩
       case measure => simp [intOf];omega
    ·obtain rfl:k=al.length:=by omega
     have haa:=qN.out;rw [wI.out,List.take_length] at haa;have hr:=Lib.hid (HLf.out DL.out haa);have Rj:=Lib.hid (bT HB4.out Hb.out);have X6:=dI.out.keep Hb.out;have hA:=lF.out.mono Hb.out;have hP:=Nv.out.keep Hb.out;have hR:=ahX.out.mono Hb.out;have ahZ:=HD.out.len;obtain ⟨bb,oo,Rk,hl9,-⟩:=hR.int (k:=0) (by rw [yE];omega);subst Rk;have hF:∀ W,Below wq.heap.size wq W->Calls Tryz.prog 70 #[.map (some gm),.slice A ((aI p).length+1) c,.agg #[.int .i64 at_.x,.int .i64 at_.y]] W fun e w'=>(∃ i:Nat,e=.returned (.int .i64 i)/\(i:Int)<((aI p).length:Int)+1/\0<=(i:Int)/\wq.cell? ⟨bb,oo+i,none⟩=some (.int .i64 (ku p (dW p at_))))/\Below W.heap.size W w':=fun W hW=>by
      have hA':=hA.mono hW;rw [<- ahZ] at *;refine (G6.out W gm f (hP.keep hW) _ L hA'.read (fun x hx d hd=>by
       rcases HD.out.aaS hx with e | e
       · rw [e] at hd;cases hd
       · exact (HV.out.iE (fF.1 e).1).2 d hd) (by omega)).mono ?_
      rintro e w' ⟨⟨i,rfl,hbx⟩,hb'⟩;obtain ⟨hi,hh⟩:=HD.out.home rfl HT.out hbx;obtain ⟨bb',oo',Rk,hl9,hc9⟩:=hR.int (k:=i) (by rw [yE];exact hi);injection Rk with Rk;injection Rk with q1 q2 _;subst q1 q2;refine ⟨⟨i,rfl,by omega,by omega,?_⟩,hb'⟩;rw [hc9];congr 2;unfold qo;rw [List.getElem_map,List.getElem_range];unfold jT;rw [hh]
     have HF:=Lib.hid hF;clear haa hA hP hR hF ahZ lF Nv ahX qN DL HLf HLa nZ G6 dI Hb
     try clear jd
     try clear jf
     try clear jg
     obtain ⟨jd,jf,jg,-,-⟩:=X6.bH;go_upto_region 22 with fail;refine cZ (Since wq) (.run 4 0 0 (.call 4 31 (.run 5 5 31 (.done)))) (by kernel_rfl) (bD (bR _)) (by kernel_rfl) (by kernel_rfl) (Nat.le_of_ble_eq_true (by kernel_rfl)) ?_;intro dn QR au aC hS
     iterate 4
      apply bn;exact au;exact rfl;exact hS;exact rfl
      · intro _ hqc;go_simp;try rfl
      try simp only [pu]
     refine aW (i:=4) (aH au rfl) (fun K hK=>?_);have aA:=Lib.hid hS;clear hS;refine aN (aV rfl) ?_;go_simp;refine (HF.out _ aA.out).mono ?_;rintro e bC ⟨⟨ii,rfl,hi8,hi9,hc9⟩,bM⟩;have hS:Since wq bC:=bT (w:=wq) aA.out bM;clear aA;refine hK.out _ _ hS (fun _=>?_);clear hK K
     try simp only [pu]
     iterate 5
      apply bn;exact au;exact rfl;exact hS;exact rfl
      · intro _ hqc;go_simp;try rfl
      try simp only [pu]
     refine bQ ?_;refine aC.down _ _ ?_;have hB:Below wq.heap.size wq bC:=hS;clear hS aC au;go_wp2_with fail;exact bodyPost_ret (results_tmp3 rfl _ _ _) rfl ⟨by rw [hr.out];rfl,bT Rj.out hB⟩
theorem WC (v:Value) (p:Pl) (at_:Pt) (w:World) (h:dS w v p):Calls Tryz.prog 24 #[v,bg at_] w fun e w'=>e=.returned (J3 (ou p at_))/\Below w.heap.size w w':=by
 by_cases hv:iV p=0
 · cases hk:lZ at_ with
  | true=>exact arl v p at_ w h hv hk
  | false =>
   have e:ou p at_=(0,0,2):=by
    unfold ou;rw [if_neg (by simpa using hv),if_pos hk]
   rw [e];exact ark v p at_ w h hv hk
 ·have e:ou p at_=(0,0,iV p):=by
   unfold ou;rw [if_pos hv]
  rw [e];exact arj v p at_ w h hv
end Go.Proofs.YtialfdomhoojiaaGreat
