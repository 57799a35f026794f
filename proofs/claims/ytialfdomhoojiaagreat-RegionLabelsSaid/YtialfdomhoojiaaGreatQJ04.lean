import Derived.Test.YtialfdomhoojiaaGreatQJ03
set_option linter.unusedSimpArgs false
set_option linter.unusedVariables false
set_option maxRecDepth 100000
set_option maxHeartbeats 4000000
namespace Go.Proofs.YtialfdomhoojiaaGreat
open Go.RowKit
theorem IB {B:Nat} {W w:World} (hB:B<=W.heap.size) (h:Below B W w) (o:Obj):Below B W (w.alloc o):=h.alloc (EH hB h.size) o
theorem MO {B b i:Nat} {W w:World} (h:Below B W w) (hb:B<=b) (u:Value):Below B W (w.setCell ⟨b,i,none⟩ u):=h.setCell (p:=⟨b,i,none⟩) hb u
def Ju (x:Ar×SV):List Value:=[.int .i64 x.1.id,.int .i64 x.1.fr,.int .i64 x.1.dst,.slice x.2.a x.2.n x.2.c,.int .i64 x.1.left,.int .i64 x.1.right]
theorem bg (x:Ar×SV):(Ju x).length=6:=rfl
theorem aBH (x:Ar×SV):∀ u∈Ju x,u.oneCell'=true:=by simp [Ju,Value.oneCell']
def nJ (x:Ar×SV):Ar×Value:=(x.1,.slice x.2.a x.2.n x.2.c)
def vH:Value->SV
 | .slice a n c=>⟨a,n,c⟩
 | _=>⟨none,0,0⟩
theorem acF (l:List (Ar×SV)):(l.map nJ).flatMap iy=l.flatMap Ju:=by rw [Og];rfl
theorem aA.sv {w:World} {al:List (Ar×Value)} (h:aA w al):∃ bl:List (Ar×SV),al=bl.map nJ:=by
 refine ⟨al.map fun x=>(x.1,vH x.2),?_⟩;rw [IV];have:∀ x∈al,(nJ ∘ fun x:Ar×Value=>(x.1,vH x.2)) x=x:=fun x hx=>by
  obtain ⟨k,hk,rfl⟩:=EF.1 hx;obtain ⟨A,c,hv,-⟩:=h k hk
  show (al[k].1,Value.slice (vH al[k].2).a (vH al[k].2).n (vH al[k].2).c)=al[k]
  rw [Prod.ext_iff];exact ⟨rfl,by rw [hv];rfl⟩
 exact (List.map_id al).symm.trans (aAD fun x hx=>(this x hx).symm)
theorem ank {α:Type} (f:α->List Value) (n:Nat) (hn:∀ a,(f a).length=n) (l:List α) (i:Nat) (hi:i<l.length) (y:α) (m:Nat) (hm:m<l.length*n) :
  ((l.set i y).flatMap f)[m]? = if m / n=i then (f y)[m % n]? else (l.flatMap f)[m]? := by
 have hn0:0<n:=by
  rcases YG n with h0 | h0
  · subst h0;omega
  · exact h0
 have h1:m / n<l.length:=aaj (by rw [rX];exact hm);have h2:m % n<n:=UC _ hn0;have e1:=flat_get f n hn (l.set i y) (m / n) (m % n) (by simpa using h1) h2;have e2:=flat_get f n hn l (m / n) (m % n) h1 h2;rw [rY] at e1 e2;rw [e1,e2,Qo];by_cases e:i=m / n
 · rw [AZ e,AZ e.symm]
 · rw [AX e,AX (fun h=>e h.symm)]
theorem Own.bn {α:Type} {w:World} {base g n c i j:Nat} {e:TypeId} {size:Nat} {f:α->List Value} (hf:∀ a,(f a).length=size) {l:List α} (h:Own w base e size f (.slice (some ⟨g,0,none⟩) n c) l) (hi:i<l.length) (hj:j<size) (y:α) (u:Value) (hy:f y=(f l[i]).set j u) :
  Own (w.setCell ⟨g,i*size+j,none⟩ u) base e size f (.slice (some ⟨g,0,none⟩) n c) (l.set i y):=by
 obtain ⟨h1,h2⟩:=h;rcases h2 with ⟨hv,h0⟩ | ⟨g',cap,cur,hv,hg,hh,hnc,hcm,hcs,hx⟩
 · cases hv
 ·injection hv with e1 e2 e3;injection e1 with e1;injection e1 with e1 _ _;subst e1 e3;have hl:(l.set i y).length=l.length:=by simp
  have hs0:0<size:=by omega
  refine ⟨by rw [flat_length f size hf],.inr ⟨g,c,_,by rw [hl,e2],hg,AO.EI hh (i*size+j) u,by rw [hl];exact hnc,hcm,by simpa using hcs,?_⟩⟩;apply lZ;intro m;rw [List.getElem?_take,hl];by_cases hm:m<l.length*size
  ·rw [AZ hm,ank f size hf l i hi y m hm];have hcur:(l.flatMap f)[m]? = cur[m]? := by
    rw [<- hx,List.getElem?_take,AZ hm];simp
   have hmc:m<cur.size:=by rw [hcs];have:=lq size hnc;omega
   have hdm:=Nat.div_add_mod m size;have hml:=UC m hs0;rw [hcur];simp only [Array.getElem?_toList,Array.getElem?_setIfInBounds,Array.size_setIfInBounds];by_cases SG:m / size=i
   ·rw [AZ SG,hy,List.getElem?_set];have hm2:m=i*size+m % size:=by rw [<- SG,rX];omega
    by_cases hmj:j=m % size
    ·rw [AZ hmj,AZ (show j<(f l[i]).length by rw [hf];exact hj),AZ (show i*size+j=m by omega)]
     first | rw [AZ hmc] | rw [AZ (show i*size+j<cur.size by omega)]
    ·rw [AX hmj,AX AB];have e2:=flat_get f size hf l i (m % size) hi hml;rw [<- hm2] at e2;rw [<- e2,hcur]
   · rw [AX SG,AX (fun e=>SG (by rw [<- e,rX,Nat.mul_add_div hs0,Nat.div_eq_of_lt hj];rfl))]
  · rw [AX hm,YN (by rw [flat_length f size hf,hl];omega)]
def WS (o p:Pt):Bool:=decide (p.y<o.y) || (decide (p.y=o.y) && decide (p.x<o.x))
def SH (o a b:Pt):Bool:=EN [o,a,b] && (!decide (a=o) && (!decide (b=o) && (if WS o a=WS o b then decide (0<tw o a b) else WS o b)))
def Yv (o a:Pt):Int:=if 0<a.x-o.x/\0<=a.y-o.y then 0 else if a.x-o.x<=0/\0<a.y-o.y then 1 else if a.x-o.x<0 then 2 else 3
def YV (o a b:Pt):Bool:=EN [o,a,b] && (!decide (a=o) && (!decide (b=o) && (decide (Yv o a<Yv o b) || (decide (Yv o a=Yv o b) && decide (0<BM o a o b)))))
def EZ (x y:Int):Prop:=y<0\/(y=0/\x<0)
def OJ (ux uy vx vy:Int):Prop:=(¬ EZ ux uy/\EZ vx vy)\/((EZ ux uy↔EZ vx vy)/\0<ux*vy-uy*vx)
theorem anl (ux uy:Int):¬ OJ ux uy ux uy:=by
 rintro (⟨h1,h2⟩ | ⟨-,h⟩)
 · exact h1 h2
 · rw [KP uy ux] at h;omega
theorem three (ux uy vx vy wx wy:Int):vy*(ux*wy-uy*wx)=uy*(vx*wy-vy*wx)+wy*(ux*vy-uy*vx):=by grind
theorem afs {v A:Int} (hv:0<v) (h:0<v*A):0<A:=by
 rcases aag 0 A with h1 | h1
 · exact h1
 · have:=aAB (gW hv) h1;omega
theorem anm {v A:Int} (hv:0<v) (h:0<=v*A):0<=A:=by
 rcases aag A 0 with h1 | h1
 · have:=XK hv h1;omega
 · exact h1
def cO (x y:Int):Prop:=0<y\/(y=0/\0<x)
theorem aft {ux uy vx vy wx wy:Int} (hu:cO ux uy) (hv:cO vx vy) (hw:cO wx wy) (h1:0<=ux*vy-uy*vx) (h2:0<=vx*wy-vy*wx) :
  0<=ux*wy-uy*wx/\(0<ux*vy-uy*vx\/0<vx*wy-vy*wx->0<ux*wy-uy*wx):=by
 have e:=three ux uy vx vy wx wy;unfold cO at *;rcases hv with hv | ⟨rfl,hv⟩
 ·have hw':0<wy:=by
   rcases hw with hw | ⟨rfl,hw⟩
   · exact hw
   ·have:=Jg hv hw
    rw [KQ] at h2;omega
  have a1:0<=uy*(vx*wy-vy*wx):=KR AB h2;have a2:0<=wy*(ux*vy-uy*vx):=KR AB h1;refine ⟨anm hv AB,fun h=>afs hv ?_⟩;rcases h with h | h
  · have:=Jg hw' h;omega
  ·rcases hu with hu | ⟨rfl,hu⟩
   · have:=Jg hu h;omega
   ·have h3:=Jg hu hv;have:=Jg hw' (show 0<ux*vy-0*vx by rw [Jf];omega)
    omega
 ·have hu':uy=0:=by
   rcases hu with hu | ⟨hu,-⟩
   ·have:=Jg hu hv
    rw [KQ] at h1;omega
   · exact hu
  subst hu';have hu2:0<ux:=by omega
  rw [Jf] at h2 ⊢;rw [Jf,KQ];have hwy:0<=wy:=by omega
  have a1:=KR (gW hu2) hwy;refine ⟨AB,fun h=>?_⟩;rcases h with h | h
  · omega
  ·have:0<wy:=afs hv AB
   have:=Jg hu2 this
   omega
theorem acG {x y:Int} (h0:¬ (x=0/\y=0)):¬ EZ x y↔cO x y:=by
 unfold EZ cO;omega
theorem abf {x y:Int}:EZ x y↔cO (-x) (-y):=by
 unfold EZ cO;omega
theorem afu {ux uy vx vy wx wy:Int} (hu:¬ (ux=0/\uy=0)) (hv:¬ (vx=0/\vy=0)) (hw:¬ (wx=0/\wy=0)) (huv:EZ ux uy↔EZ vx vy) (hvw:EZ vx vy↔EZ wx wy) (h1:0<=ux*vy-uy*vx) (h2:0<=vx*wy-vy*wx) :
  0<=ux*wy-uy*wx/\(0<ux*vy-uy*vx\/0<vx*wy-vy*wx->0<ux*wy-uy*wx):=by
 by_cases hl:EZ vx vy
 ·have:=aft (abf.1 (huv.2 hl)) (abf.1 hl) (abf.1 (hvw.1 hl))
  simp only [Int.neg_mul_neg] at this;exact this h1 h2
 · exact aft ((acG hu).1 (fun h=>hl (huv.1 h))) ((acG hv).1 hl) ((acG hw).1 (fun h=>hl (hvw.2 h))) h1 h2
theorem ano {ux uy vx vy wx wy:Int} (hu:¬ (ux=0/\uy=0)) (hv:¬ (vx=0/\vy=0)) (hw:¬ (wx=0/\wy=0)) (h1:OJ ux uy vx vy) (h2:OJ vx vy wx wy):OJ ux uy wx wy:=by
 unfold OJ at *;rcases h1 with ⟨a1,a2⟩ | ⟨a1,a2⟩
 ·rcases h2 with ⟨b1,b2⟩ | ⟨b1,b2⟩
  · exact absurd a2 b1
  · exact .inl ⟨a1,b1.1 a2⟩
 ·rcases h2 with ⟨b1,b2⟩ | ⟨b1,b2⟩
  · exact .inl ⟨fun h=>b1 (a1.1 h),b2⟩
  · exact .inr ⟨a1.trans b1,(afu hu hv hw a1 b1 AB AB).2 (.inl a2)⟩
theorem anp {ux uy vx vy wx wy:Int} (hu:¬ (ux=0/\uy=0)) (hv:¬ (vx=0/\vy=0)) (hw:¬ (wx=0/\wy=0)) (h1:¬ OJ ux uy vx vy) (h2:¬ OJ vx vy wx wy):¬ OJ ux uy wx wy:=by
 have key:∀ {ax ay bx b:Int},¬ OJ ax ay bx b->(EZ ax ay/\¬ EZ bx b)\/((EZ bx b↔EZ ax ay)/\0<=bx*ay-b*ax):=by
  intro ax ay bx b h;unfold OJ at h;by_cases l1:EZ ax ay
  ·by_cases l2:EZ bx b
   ·refine .inr ⟨by simp [l1,l2],?_⟩;rw [KP bx,KP b];rcases aag (ay*bx-ax*b) 0 with h3 | h3
    · exact absurd (.inr ⟨by simp [l1,l2],AB⟩) h
    · exact h3
   · exact .inl ⟨l1,l2⟩
  ·by_cases l2:EZ bx b
   · exact absurd (.inl ⟨l1,l2⟩) h
   ·refine .inr ⟨by simp [l1,l2],?_⟩;rw [KP bx,KP b];rcases aag (ay*bx-ax*b) 0 with h3 | h3
    · exact absurd (.inr ⟨by simp [l1,l2],AB⟩) h
    · exact h3
 intro h3;rcases key h1 with ⟨a1,a2⟩ | ⟨a1,a2⟩
 ·rcases key h2 with ⟨b1,b2⟩ | ⟨b1,b2⟩
  · exact a2 b1
  ·rcases h3 with ⟨c1,c2⟩ | ⟨c1,c2⟩
   · exact c1 a1
   · exact a2 (b1.1 (c1.1 a1))
 ·rcases key h2 with ⟨b1,b2⟩ | ⟨b1,b2⟩
  ·rcases h3 with ⟨c1,c2⟩ | ⟨c1,c2⟩
   · exact c1 (a1.1 b1)
   · exact b2 (c1.1 (a1.1 b1))
  ·rcases h3 with ⟨c1,c2⟩ | ⟨c1,c2⟩
   · exact c1 (a1.1 (b1.1 c2))
   ·have:=(afu hw hv hu b1 a1 b2 a2).1
    rw [KP wx,KP wy] at this;omega
def YW (x y:Int):Int:=if 0<x/\0<=y then 0 else if x<=0/\0<y then 1 else if x<0 then 2 else 3
theorem afv {x y:Int} (h:¬ (x=0/\y=0)):(YW x y=0/\0<x/\0<=y)\/(YW x y=1/\x<=0/\0<y)\/(YW x y=2/\x<0/\y<=0)\/(YW x y=3/\0<=x/\y<0):=by
 unfold YW;split
 · omega
 ·split
  · omega
  ·split
   · omega
   · omega
theorem anq {ux uy vx vy:Int} (hu:¬ (ux=0/\uy=0)) (hv:¬ (vx=0/\vy=0)):(YW ux uy<YW vx vy\/(YW ux uy=YW vx vy/\0<ux*vy-uy*vx))↔OJ ux uy vx vy:=by
 unfold OJ;have np:∀ {a b:Int},0<=a->b<=0->a*b<=0:=fun h1 h2=>aAB h1 h2;have pn:∀ {a b:Int},a<=0->0<=b->a*b<=0:=fun h1 h2=>aAC h1 h2;rcases afv hu with ⟨e1,a1,a2⟩ | ⟨e1,a1,a2⟩ | ⟨e1,a1,a2⟩ | ⟨e1,a1,a2⟩<;>rcases afv hv with ⟨e2,b1,b2⟩ | ⟨e2,b1,b2⟩ | ⟨e2,b1,b2⟩ | ⟨e2,b1,b2⟩<;>rw [e1,e2]
 case inl.inr.inl =>
  have h1:=Jg a1 b2;have h2:=np a2 b1;have l1:¬ EZ ux uy:=by unfold EZ;omega
  have l2:¬ EZ vx vy:=by unfold EZ;omega
  simp only [l1,l2,iff_self,true_and,not_false_eq_true,and_false,false_or,not_true_eq_false,false_and];omega
 case inr.inl.inl =>
  have h1:=pn a1 b2;have h2:=Jg a2 b1;have l1:¬ EZ ux uy:=by unfold EZ;omega
  have l2:¬ EZ vx vy:=by unfold EZ;omega
  simp only [l1,l2,iff_self,true_and,not_false_eq_true,and_false,false_or,not_true_eq_false,false_and];omega
 case inr.inr.inl.inr.inr.inr =>
  have h1:=rW a1 b2;have h2:=pn a2 b1;have l1:EZ ux uy:=by unfold EZ;omega
  have l2:EZ vx vy:=by unfold EZ;omega
  simp only [l1,l2,iff_self,true_and,not_false_eq_true,and_false,false_or,not_true_eq_false,false_and];omega
 case inr.inr.inr.inr.inr.inl =>
  have h1:=np a1 b2;have h2:=rW a2 b1;have l1:EZ ux uy:=by unfold EZ;omega
  have l2:EZ vx vy:=by unfold EZ;omega
  simp only [l1,l2,iff_self,true_and,not_false_eq_true,and_false,false_or,not_true_eq_false,false_and];omega
 all_goals
  first
  | ((have l1:¬ EZ ux uy:=by unfold EZ;omega);(have l2:¬ EZ vx vy:=by unfold EZ;omega);(simp only [l1,l2,iff_self,true_and,not_false_eq_true,and_false,false_or,not_true_eq_false,false_and];omega))
  | ((have l1:EZ ux uy:=by unfold EZ;omega);(have l2:EZ vx vy:=by unfold EZ;omega);(simp only [l1,l2,iff_self,true_and,not_false_eq_true,and_false,false_or,not_true_eq_false,false_and];omega))
  | ((have l1:¬ EZ ux uy:=by unfold EZ;omega);(have l2:EZ vx vy:=by unfold EZ;omega);simp [l1,l2])
  | ((have l1:EZ ux uy:=by unfold EZ;omega);(have l2:¬ EZ vx vy:=by unfold EZ;omega);simp [l1,l2])
theorem afw (o p:Pt):WS o p=true↔EZ (p.x-o.x) (p.y-o.y):=by
 unfold WS EZ;simp only [KD,Ei,EO];omega
theorem vI {a o:Pt}:a≠o↔¬ (a.x-o.x=0/\a.y-o.y=0):=by
 rw [Ne,Pt.ext_iff'];omega
def Ef (o a b:Pt):Prop:=OJ (a.x-o.x) (a.y-o.y) (b.x-o.x) (b.y-o.y)
theorem abg (o a b:Pt):SH o a b=true↔EN [o,a,b]=true/\a≠o/\b≠o/\Ef o a b:=by
 unfold SH;simp only [Ei,Qk,Iy];refine and_congr_right fun _=>and_congr_right fun _=>and_congr_right fun _=>?_;unfold Ef OJ;rw [<- afw,<- afw]
 show _↔_\/(_/\0<tw o a b)
 cases WS o a<;>cases WS o b<;>simp
theorem anr (o a b:Pt):YV o a b=true↔EN [o,a,b]=true/\a≠o/\b≠o/\Ef o a b:=by
 unfold YV;simp only [Ei,Qk,Iy];refine and_congr_right fun _=>and_congr_right fun h1=>and_congr_right fun h2=>?_;rw [KD,Ei,EO,EO,EO];exact anq (vI.1 h1) (vI.1 h2)
theorem ant (o a b:Pt):SH o a b=YV o a b:=by
 rw [MH,abg,anr]
def PE (s t:Sg) (x:Nd):Bool:=VW s.arc x.id && VW t.arc x.id && LZ s.a s.b x.pt && LZ t.a t.b x.pt
def PG (p:Pl) (s t:Sg):Bool:=if Fq s.a s.b t.a t.b=1 then p.nodes.any (PE s t) else Fq s.a s.b t.a t.b == 0
theorem anu (v:Value) (p:Pl) (s t:Sg) (A A':Option Addr) (n n' c c':Nat) (w:World) (h:Ci w v p) :
  Calls Tryz.prog 191 #[v,Qx s (.slice A n c),Qx t (.slice A' n' c')] w fun e w'=>e=.returned (.bool (PG p s t))/\AU w w':=by
 have TM:∀ W,Calls Tryz.prog 248 #[BA s.a,BA s.b,BA t.a,BA t.b] W _:=fun W=>agN s.a s.b t.a t.b W;have TE:∀ (a:Ar) (A:Option Addr) (n c:Nat) (id:Int) W,Calls Tryz.prog 249 #[.agg #[.int .i64 a.id,.int .i64 a.fr,.int .i64 a.dst,.slice A n c,.int .i64 a.left,.int .i64 a.right],.int .i64 id] W _:=fun a A n c id W=>anj a A n c id W;have TO:∀ p q r:Pt,∀ W,Calls Tryz.prog 150 #[BA p,BA q,BA r] W _:=fun p q r W=>ag4 p q r W;unfold BA at TM TO;have HM:=AA TM;clear TM;have HE:=AA TE;clear TE;have HO:=AA TO;clear TO;obtain ⟨_,va,vf,al,rfl,-,⟨An,cn,rfl,hn1,hn2,hR⟩,-,-⟩:=h;unfold maxLen at hn2;have HR:=AA hR;clear hR;unfold Qx;obtain ⟨q,hq⟩:=BN (PG p s t);rw [hq];unfold PG at hq;generalize p.nodes=l at *;have Hq:=AA hq;clear hq;go_enter Tryz.func191,Tryz.ntmps191;go_wp2_with fail;refine (HM.out _).mono ?_;rintro e w1 ⟨rfl,hb1⟩;have Bw:AU w w1:=by
  exact EC
 have X2:AO _ (w.heap.size) 26 #[.slice An l.length cn,va,vf]:=AO.keep (by repeat (first | exact AO.made Ak _ _ | refine AO.alloc ?_ _)) hb1;have X3:AO _ (w.heap.size+1) 202 #[.int .i64 s.arc.id,.int .i64 s.arc.fr,.int .i64 s.arc.dst,.slice A n c,.int .i64 s.arc.left,.int .i64 s.arc.right,.int .i64 s.i,.int .i64 s.n,.int .i64 s.a.x,.int .i64 s.a.y,.int .i64 s.b.x,.int .i64 s.b.y]:=AO.keep (by repeat (first | exact AO.made Ak _ _ | refine AO.alloc ?_ _)) hb1;have X4:AO _ (w.heap.size+1+1) 202 #[.int .i64 t.arc.id,.int .i64 t.arc.fr,.int .i64 t.arc.dst,.slice A' n' c',.int .i64 t.arc.left,.int .i64 t.arc.right,.int .i64 t.i,.int .i64 t.n,.int .i64 t.a.x,.int .i64 t.a.y,.int .i64 t.b.x,.int .i64 t.b.y]:=AO.keep (by repeat (first | exact AO.made Ak _ _ | refine AO.alloc ?_ _)) hb1;clear hb1;generalize Fq s.a s.b t.a t.b=m at *;by_cases h1:m=1
 case neg =>
  have hf:=AA (show (m == 0)=q by rw [<- Hq.out,AX h1]);have h1':(m != 1)=true:=by simpa using h1
  clear h1;go_wp2;go_ret;exact ⟨CW hf.out,Bw⟩
 subst h1;have hf:=AA (show l.any (PE s t)=q by rw [<- Hq.out,AZ rfl]);clear Hq;have CG:=AA X2;have Ej:=AA X3;have D8:=AA X4;have HB:=AA Bw;clear X2 X3 X4 Bw;go_wp2_with fail;go_loopw [8] (fun i wr=>∃ k:Nat,k<=l.length/\i=.int .i64 k/\AU w1 wr/\∀ j (hj:j<l.length),j<k->PE s t l[j]=false) (fun i _=>l.length-(intOf i).toNat)
 case atStart => exact ⟨0,Bv _,rfl,bR w1,fun j _ h=>by omega⟩
 case round =>
  obtain ⟨k,hk,rfl,hb,hno⟩:=hrel;have Hb:=AA hb;have Hno:=AA hno;have X2:=CG.out.keep hb;have X3:=Ej.out.keep hb;have X4:=D8.out.keep hb;clear hb hno;obtain ⟨BU,BX,Bg,CB,-,-,-⟩:=X2.Az;obtain ⟨Dk,EJ,ET,I9,KZ,PV,PW,Uf,Ug,Uh,Uy,Uz,Dk,-,-,-,-,-,-,-,-,-,-,-,-⟩:=X3.SC;obtain ⟨BZ,Bl,CQ,EU,KX,La,Lc,cZ,dB,dF,dG,dH,BZ,-,-,-,-,-,-,-,-,-,-,-,-⟩:=X4.SC;by_cases hlt:k<l.length
  case neg =>
   have hg:=AA (Ue l (PE s t) (fun j hj=>Hno.out j hj AB));go_wp2;go_ret;exact ⟨CW (by rw [<- hf.out,hg.out]),bT HB.out Hb.out⟩
  obtain ⟨b,o,rfl,hlb,c0,c1,c2⟩:=(HR.out.mono (bT HB.out Hb.out)).nd hlt;have hx:=AA (show PE s t l[k]=(VW s.arc l[k].id && VW t.arc l[k].id && LZ s.a s.b l[k].pt && LZ t.a t.b l[k].pt) from rfl);go_wp2_with fail;refine (HE.out _ _ _ _ _ _).mono ?_;rintro e w2 ⟨rfl,hb2⟩;have B2:AU w1 w2:=bT (bA Hb.out _) hb2;have X5:AO w2 wr.heap.size 45 #[.int .i64 l[k].id,.int .i64 l[k].pt.x,.int .i64 l[k].pt.y]:=(AO.made rfl _ _).keep hb2;replace X2:=(X2.alloc _).keep hb2;replace X3:=(X3.alloc _).keep hb2;replace X4:=(X4.alloc _).keep hb2;clear hb2 c0 c1 c2 hlb
  try clear BU BX Bg CB
  obtain ⟨BU,BX,Bg,CB,-,-,-⟩:=X2.Az
  try clear Dk EJ ET I9 KZ PV PW Uf Ug Uh Uy Uz Dk
  obtain ⟨Dk,EJ,ET,I9,KZ,PV,PW,Uf,Ug,Uh,Uy,Uz,Dk,-,-,-,-,-,-,-,-,-,-,-,-⟩:=X3.SC
  try clear BZ Bl CQ EU KX La Lc cZ dB dF dG dH BZ
  obtain ⟨BZ,Bl,CQ,EU,KX,La,Lc,cZ,dB,dF,dG,dH,BZ,-,-,-,-,-,-,-,-,-,-,-,-⟩:=X4.SC;obtain ⟨CJ,CO,CS,F8,-,-,-⟩:=X5.Az
  cases e1:VW s.arc l[k].id
  case false =>
   have hy:=AA (show PE s t l[k]=false by rw [hx.out,e1];rfl);clear e1;go_wp2;go_roundw
   case rel => exact ⟨k+1,AB,BJ,B2,all_succ (p:=fun x=>PE s t x=false) Hno.out hlt hy.out⟩
   case measure => exact BL
  have H1:=AA e1;clear e1;go_wp2_with fail;refine (HE.out _ _ _ _ _ _).mono ?_;rintro e w3 ⟨rfl,hb3⟩;replace B2:AU w1 w3:=bT B2 hb3;replace X2:=X2.keep hb3;replace X3:=X3.keep hb3;replace X4:=X4.keep hb3;replace X5:=X5.keep hb3;clear hb3
  try clear BU BX Bg CB
  obtain ⟨BU,BX,Bg,CB,-,-,-⟩:=X2.Az
  try clear Dk EJ ET I9 KZ PV PW Uf Ug Uh Uy Uz Dk
  obtain ⟨Dk,EJ,ET,I9,KZ,PV,PW,Uf,Ug,Uh,Uy,Uz,Dk,-,-,-,-,-,-,-,-,-,-,-,-⟩:=X3.SC
  try clear BZ Bl CQ EU KX La Lc cZ dB dF dG dH BZ
  obtain ⟨BZ,Bl,CQ,EU,KX,La,Lc,cZ,dB,dF,dG,dH,BZ,-,-,-,-,-,-,-,-,-,-,-,-⟩:=X4.SC
  try clear CJ CO CS F8
  obtain ⟨CJ,CO,CS,F8,-,-,-⟩:=X5.Az
  cases e2:VW t.arc l[k].id
  case false =>
   have hy:=AA (show PE s t l[k]=false by rw [hx.out,e2];simp);clear e2;go_wp2;go_roundw
   case rel => exact ⟨k+1,AB,BJ,B2,all_succ (p:=fun x=>PE s t x=false) Hno.out hlt hy.out⟩
   case measure => exact BL
  have H2:=AA e2;clear e2;go_wp2_with fail;refine (HO.out s.a s.b l[k].pt _).mono ?_;rintro e w4 ⟨rfl,hb4⟩;replace B2:AU w1 w4:=bT B2 hb4;replace X2:=X2.keep hb4;replace X3:=X3.keep hb4;replace X4:=X4.keep hb4;replace X5:=X5.keep hb4;clear hb4
  try clear BU BX Bg CB
  obtain ⟨BU,BX,Bg,CB,-,-,-⟩:=X2.Az
  try clear Dk EJ ET I9 KZ PV PW Uf Ug Uh Uy Uz Dk
  obtain ⟨Dk,EJ,ET,I9,KZ,PV,PW,Uf,Ug,Uh,Uy,Uz,Dk,-,-,-,-,-,-,-,-,-,-,-,-⟩:=X3.SC
  try clear BZ Bl CQ EU KX La Lc cZ dB dF dG dH BZ
  obtain ⟨BZ,Bl,CQ,EU,KX,La,Lc,cZ,dB,dF,dG,dH,BZ,-,-,-,-,-,-,-,-,-,-,-,-⟩:=X4.SC
  try clear CJ CO CS F8
  obtain ⟨CJ,CO,CS,F8,-,-,-⟩:=X5.Az
  cases e3:LZ s.a s.b l[k].pt
  case false =>
   have hy:=AA (show PE s t l[k]=false by rw [hx.out,e3];simp);clear e3;go_wp2;go_roundw
   case rel => exact ⟨k+1,AB,BJ,B2,all_succ (p:=fun x=>PE s t x=false) Hno.out hlt hy.out⟩
   case measure => exact BL
  have H3:=AA e3;clear e3;go_wp2_with fail;refine (HO.out t.a t.b l[k].pt _).mono ?_;rintro e w5 ⟨rfl,hb5⟩;replace B2:AU w1 w5:=bT B2 hb5;replace X2:=X2.keep hb5;replace X3:=X3.keep hb5;replace X4:=X4.keep hb5;replace X5:=X5.keep hb5;clear hb5
  try clear BU BX Bg CB
  obtain ⟨BU,BX,Bg,CB,-,-,-⟩:=X2.Az
  try clear Dk EJ ET I9 KZ PV PW Uf Ug Uh Uy Uz Dk
  obtain ⟨Dk,EJ,ET,I9,KZ,PV,PW,Uf,Ug,Uh,Uy,Uz,Dk,-,-,-,-,-,-,-,-,-,-,-,-⟩:=X3.SC
  try clear BZ Bl CQ EU KX La Lc cZ dB dF dG dH BZ
  obtain ⟨BZ,Bl,CQ,EU,KX,La,Lc,cZ,dB,dF,dG,dH,BZ,-,-,-,-,-,-,-,-,-,-,-,-⟩:=X4.SC
  try clear CJ CO CS F8
  obtain ⟨CJ,CO,CS,F8,-,-,-⟩:=X5.Az
  cases e4:LZ t.a t.b l[k].pt
  case false =>
   have hy:=AA (show PE s t l[k]=false by rw [hx.out,e4];simp);clear e4;go_wp2;go_roundw
   case rel => exact ⟨k+1,AB,BJ,B2,all_succ (p:=fun x=>PE s t x=false) Hno.out hlt hy.out⟩
   case measure => exact BL
  have hg:=AA (SB l (PE s t) k hlt (by rw [hx.out,H1.out,H2.out,H3.out,e4];rfl));clear e4;go_wp2;go_ret;exact ⟨CW (by rw [<- hf.out,hg.out]),bT HB.out B2⟩
def Qy (s:Sg) (x:Nd):Bool:=(((s.i:Int) == 0) && (s.arc.fr == x.id)) || (((s.i:Int) == (s.n:Int)-1) && (s.arc.dst == x.id))
def Qz (s:Sg) (x:Nd):Bool:=Qy s x || !LZ s.a s.b x.pt
def V3 (s:Sg):Bool:=!decide (s.a=s.b) && (s.arc.fr != s.arc.dst || decide (3<=(s.n:Int)))
def QK (p:Pl) (s:Sg):Bool:=p.nodes.all (Qz s) && V3 s
theorem YX {α:Type} (l:List α) (q:α->Bool) (k:Nat) (hk:k<l.length) (h:q l[k]=false):l.all q=false:=gY.2 ⟨l[k],BO hk,by simp [h]⟩
theorem nK {α:Type} (l:List α) (q:α->Bool) (h:∀ j (hj:j<l.length),q l[j]=true):l.all q=true:=KU.2 fun x hx=>by
 obtain ⟨i,hi,rfl⟩:=EF.1 hx;exact h i hi
theorem anv (v:Value) (p:Pl) (s:Sg) (A:Option Addr) (n c:Nat) (w:World) (h:Ci w v p) (hs1:s.i<=2097152) (hs2:s.n<=2097152) :
  Calls Tryz.prog 189 #[v,Qx s (.slice A n c)] w fun e w'=>e=.returned (.bool (QK p s))/\AU w w':=by
 have TO:∀ p q r:Pt,∀ W,Calls Tryz.prog 150 #[BA p,BA q,BA r] W _:=fun p q r W=>ag4 p q r W;unfold BA at TO;have HO:=AA TO;clear TO;obtain ⟨_,va,vf,al,rfl,-,⟨An,cn,rfl,hn1,hn2,hR⟩,-,-⟩:=h;unfold maxLen at hn2;have HR:=AA hR;clear hR;unfold Qx;obtain ⟨q,hq⟩:=BN (QK p s);rw [hq];unfold QK at hq;generalize p.nodes=l at *;have Hq:=AA hq;clear hq;go_enter Tryz.func189,Tryz.ntmps189;go_wp2_with fail;obtain ⟨W0,hW0⟩:=BR ((w.alloc (.cells #[.slice An l.length cn,va,vf] 26)).alloc (.cells #[.int .i64 s.arc.id,.int .i64 s.arc.fr,.int .i64 s.arc.dst,.slice A n c,.int .i64 s.arc.left,.int .i64 s.arc.right,.int .i64 s.i,.int .i64 s.n,.int .i64 s.a.x,.int .i64 s.a.y,.int .i64 s.b.x,.int .i64 s.b.y] 202));have Bw:AU w W0:=by rw [hW0];exact bA (bA (bR w) _) _
 have X2:AO W0 w.heap.size 26 #[.slice An l.length cn,va,vf]:=by rw [hW0];exact (AO.made rfl _ _).alloc _
 have X3:AO W0 (w.heap.size+1) 202 #[.int .i64 s.arc.id,.int .i64 s.arc.fr,.int .i64 s.arc.dst,.slice A n c,.int .i64 s.arc.left,.int .i64 s.arc.right,.int .i64 s.i,.int .i64 s.n,.int .i64 s.a.x,.int .i64 s.a.y,.int .i64 s.b.x,.int .i64 s.b.y]:=by rw [hW0];exact AO.made Ak _ _
 rw [<- hW0];have CG:=AA X2;have Ej:=AA X3;have HB:=AA Bw;clear X2 X3 Bw hW0;go_loopw [5] (fun i wr=>∃ k:Nat,k<=l.length/\i=.int .i64 k/\AU W0 wr/\∀ j (hj:j<l.length),j<k->Qz s l[j]=true) (fun i _=>l.length-(intOf i).toNat)
 case atStart => exact ⟨0,Bv _,rfl,bR W0,fun j _ h=>by omega⟩
 case round =>
  obtain ⟨k,hk,rfl,hb,hno⟩:=hrel;have Hb:=AA hb;have Hno:=AA hno;have X2:=CG.out.keep hb;have X3:=Ej.out.keep hb;clear hb hno;obtain ⟨BU,BX,Bg,CB,-,-,-⟩:=X2.Az;obtain ⟨Dk,EJ,ET,I9,KZ,PV,PW,Uf,Ug,Uh,Uy,Uz,Dk,-,-,-,-,-,-,-,-,-,-,-,-⟩:=X3.SC;by_cases hlt:k<l.length
  case neg =>
   have hg:=AA (nK l (Qz s) (fun j hj=>Hno.out j hj AB));have hf:=AA (show V3 s=q by rw [<- Hq.out,hg.out];rfl);have hE:=aAb s.a s.b;by_cases h1:s.a=s.b
   ·have h1':decide (s.a=s.b)=true:=JO h1;have hz:=AA (show false=V3 s by rw [V3,h1'];rfl);have H1:=AA h1;clear h1;go_wp2;go_ret;exact ⟨CW (hz.out.trans hf.out),bT HB.out Hb.out⟩
   ·have h1':decide (s.a=s.b)=false:=Gg h1;have H1:=AA h1;clear h1
    cases h2:(s.arc.fr != s.arc.dst)
    ·have hz:=AA (show decide (3<=(s.n:Int))=V3 s by rw [V3,h1',h2];rfl);go_wp2;go_ret;exact ⟨CW (hz.out.trans hf.out),bT HB.out Hb.out⟩
    ·have hz:=AA (show true=V3 s by rw [V3,h1',h2];rfl);go_wp2;go_ret;exact ⟨CW (hz.out.trans hf.out),bT HB.out Hb.out⟩
  obtain ⟨b,o,rfl,hlb,c0,c1,c2⟩:=(HR.out.mono (bT HB.out Hb.out)).nd hlt;go_upto_region 5 with fail;obtain ⟨W1,hW1⟩:=BR (wr.alloc (.cells #[.int .i64 l[k].id,.int .i64 l[k].pt.x,.int .i64 l[k].pt.y] 45));have B1:AU W0 W1:=by rw [hW1];exact bA Hb.out _
  have X6:AO W1 wr.heap.size 45 #[.int .i64 l[k].id,.int .i64 l[k].pt.x,.int .i64 l[k].pt.y]:=by rw [hW1];exact AO.made rfl _ _
  have hA1:AU wr W1:=by rw [hW1];exact bA (bR wr) _
  replace X2:=X2.keep hA1;replace X3:=X3.keep hA1;rw [<- hW1];clear c0 c1 c2 hlb hW1 hA1
  try clear BU BX Bg CB
  obtain ⟨BU,BX,Bg,CB,-,-,-⟩:=X2.Az
  try clear Dk EJ ET I9 KZ PV PW Uf Ug Uh Uy Uz Dk
  obtain ⟨Dk,EJ,ET,I9,KZ,PV,PW,Uf,Ug,Uh,Uy,Uz,Dk,-,-,-,-,-,-,-,-,-,-,-,-⟩:=X3.SC;obtain ⟨EK,EL,EM,ML,-,-,-⟩:=X6.Az;go_cut [7] (fun u wx=>u=.bool (Qy s l[k])/\wx=W1)
  case first =>
   cases h1:((s.i:Int) == 0)
   case true =>
    cases h2:(s.arc.fr == l[k].id)
    case true =>
     have hz:=AA (show true=Qy s l[k] by rw [Qy,h1,h2];rfl);go_wp2;go_meet
     case rel => exact ⟨congrArg Value.bool hz.out,rfl⟩
    case false =>
     cases h3:((s.i:Int) == (s.n:Int)-1)
     case false =>
      have hz:=AA (show false=Qy s l[k] by rw [Qy,h1,h2,h3];rfl);go_wp2;go_meet
      case rel => exact ⟨congrArg Value.bool hz.out,rfl⟩
     case true =>
      have hz:=AA (show (s.arc.dst == l[k].id)=Qy s l[k] by rw [Qy,h1,h2,h3];rfl);go_wp2;go_meet
      case rel => exact ⟨congrArg Value.bool hz.out,rfl⟩
   case false =>
    cases h3:((s.i:Int) == (s.n:Int)-1)
    case false =>
     have hz:=AA (show false=Qy s l[k] by rw [Qy,h1,h3];rfl);go_wp2;go_meet
     case rel => exact ⟨congrArg Value.bool hz.out,rfl⟩
    case true =>
     have hz:=AA (show (s.arc.dst == l[k].id)=Qy s l[k] by rw [Qy,h1,h3];rfl);go_wp2;go_meet
     case rel => exact ⟨congrArg Value.bool hz.out,rfl⟩
  case rest =>
   obtain ⟨rfl,rfl⟩:=hcut
   cases e1:Qy s l[k]
   case true =>
    have hy:=AA (show Qz s l[k]=true by rw [Qz,e1];rfl);clear e1;go_wp2;go_roundw
    case rel => exact ⟨k+1,AB,BJ,B1,all_succ (p:=fun x=>Qz s x=true) Hno.out hlt hy.out⟩
    case measure => exact BL
   case false =>
   have E1:=AA e1;clear e1;go_wp2_with fail;refine (HO.out s.a s.b l[k].pt _).mono ?_;rintro e w4 ⟨rfl,hb4⟩;have B4:=bT B1 hb4
   cases e3:LZ s.a s.b l[k].pt
   case false =>
    have hy:=AA (show Qz s l[k]=true by rw [Qz,e3];simp);clear e3;go_wp2;go_roundw
    case rel => exact ⟨k+1,AB,BJ,B4,all_succ (p:=fun x=>Qz s x=true) Hno.out hlt hy.out⟩
    case measure => exact BL
   case true =>
    have hg:=AA (YX l (Qz s) k hlt (by rw [Qz,E1.out,e3];rfl));clear e3;go_wp2;go_ret;exact ⟨CW (by rw [<- Hq.out,hg.out];rfl),bT HB.out B4⟩
section
variable {α β:Type} {w w':World} {base base':Nat} {e e':TypeId} {size size':Nat} {f:α->List Value} {f':β->List Value} {v v':Value} {l:List α} {l':List β}
theorem Own.grown (h:Own w base e size f v l) {row:Option Nat} (hg:w.grownBy w' row) (hne:∀ g,v.ownBlock=some g->some g≠row):Own w' base e size f v l:=by
 obtain ⟨h1,h2⟩:=h;refine ⟨h1,?_⟩;rcases h2 with h2 | ⟨g,cap,cur,hv,hg',hh,r⟩
 · exact .inl h2
 ·subst hv;refine .inr ⟨g,cap,cur,rfl,hg',?_,r⟩;exact AO.grown (t:=e) (cs:=cur) hh hg (hne g rfl)
theorem Own.blk (h:Own w base e size f v l) {g:Nat} (hg:v.ownBlock=some g):∃ cs,AO w g e cs:=by
 rcases h.2 with ⟨rfl,_⟩ | ⟨g',cap,cur,rfl,_,hh,_⟩
 · simp [Value.ownBlock] at hg
 ·have:g'=g:=by simpa [Value.ownBlock] using hg
  subst this;exact ⟨_,hh⟩
theorem Own.apart (h:Own w base e size f v l) (h':Own w base' e' size' f' v' l') (hne:e≠e'):∀ g,v.ownBlock=some g->some g≠v'.ownBlock:=by
 intro g hg hg';obtain ⟨cs,h1⟩:=h.blk hg;obtain ⟨cs',h2⟩:=h'.blk hg'.symm;exact AO.Me h1 h2 hne rfl
end
def AY:Pt:=⟨0,0⟩
def Jv (a:Ar) (l:List Pt):List Sg:=(List.range (l.length-1)).map fun k=>⟨a,k,l.length-1,l.getD k AY,l.getD (k+1) AY⟩
def UK (p:Pl):List Sg:=p.AP.flatMap fun a=>Jv a (AV p a)
theorem vJ (a:Ar) (l:List Pt):(Jv a l).length=l.length-1:=by simp [Jv]
theorem anw (a:Ar) (l:List Pt) (k:Nat) (hk:k+1<l.length):(Jv a l).take (k+1)=(Jv a l).take k++[⟨a,k,l.length-1,l[k],l[k+1]⟩]:=by
 have h:k<(Jv a l).length:=by rw [vJ];omega
 rw [F7 h];simp [Jv,List.getD,Dh hk,Dh (show k<l.length by omega)]
theorem Ey (p:Pl) (a:Ar):(AV p a).length=a.via.length+2:=by simp [AV]
theorem afx (p:Pl) (l:List Ar):(l.flatMap fun a=>Jv a (AV p a)).length=(l.flatMap (·.via)).length+l.length:=by
 induction l with
 | nil=>rfl
 | cons a l ih=>simp only [KI,ER,ih,vJ,Ey,IU];omega
def anx (w:World) (l:List Sg) (e:Ending) (w':World):Prop :=
 ∃ sl v,sl.map (·.1)=l/\e=.returned v/\AU w w'/\Own w' w.heap.size 202 12 Yu v sl
theorem anz:Elem Tryz.prog 198 202 12 112:=Elem.PU (z:=.agg #[.int .i64 0,.int .i64 0,.int .i64 0,.slice none 0 0,.int .i64 0,.int .i64 0,.int .i64 0,.int .i64 0,.int .i64 0,.int .i64 0,.int .i64 0,.int .i64 0]) I8 I8 rfl AB
theorem ao0 (s:Sg×SV):(Yu s).length=12:=rfl
theorem ao1 (s:Sg×SV):∀ u∈Yu s,u.oneCell'=true:=by simp [Yu,Value.oneCell']
theorem Sl.ao2 {w:World} {g:Nat} {t:TypeId} {s:Sg} {u:SV} {n:Int} (hn:n=s.n) (h:AO w g t #[.int .i64 s.arc.id,.int .i64 s.arc.fr,.int .i64 s.arc.dst,.slice u.a u.n u.c,.int .i64 s.arc.left,.int .i64 s.arc.right,.int .i64 s.i,.int .i64 n,.int .i64 s.a.x,.int .i64 s.a.y,.int .i64 s.b.x,.int .i64 s.b.y]) :
  Sl w (.slice (some ⟨g,0,none⟩) 1 1) ([(s,u)] : List (Sg×SV)).length (([(s,u)] : List (Sg×SV)).flatMap Yu):=by
 subst hn;exact Sl.lit (n:=1) h rfl (DN AB)
theorem anP (v:Value) (p:Pl) (w:World) (h:Ci w v p) (hl1:p.AP.length<=4096) (hl2:(p.AP.flatMap (·.via)).length<=1048576) :
  Calls Tryz.prog 188 #[v] w (anx w (UK p)):=by
 have HP:=AA h;obtain ⟨vn,_,vf,al,rfl,hpa,-,⟨⟨Aa,ca,rfl,ha1,ha2,FD⟩,hV⟩,-⟩:=h;unfold maxLen at ha2;have hS:UK p=al.flatMap fun a=>Jv a.1 (AV p a.1):=by unfold UK;rw [hpa,Og]
 have hL:∀ k,((al.take k).flatMap fun a=>Jv a.1 (AV p a.1)).length<=1052672:=fun k=>by
  have h1:=uG al (fun a=>Jv a.1 (AV p a.1)) k;rw [<- hS] at h1;unfold UK at h1;rw [afx] at h1;omega
 have hsh:∀ k (hk:k<al.length),al[k].1.via.length<=1048576:=fun k hk=>by
  have h1:=ac3 al (fun a=>a.1.via) k hk;rw [hpa,Og] at hl2;omega
 have hl:al.length<=4096:=by rw [hpa,Cj] at hl1;exact hl1
 rw [hS];have HL:=AA hL;have DW:=AA hsh;have HV:=AA hV;clear hV;have GN:=AA FD;clear FD;clear hS hpa hl1 hl2 hL hsh;go_enter Tryz.func188,Tryz.ntmps188;go_wp2_with fail;obtain ⟨W0,hW0⟩:=BR (w.alloc (.cells #[vn,.slice Aa al.length ca,vf] 26));have X1:AO W0 w.heap.size 26 #[vn,.slice Aa al.length ca,vf]:=by rw [hW0];exact AO.made rfl _ _
 have FN:AU w W0:=by rw [hW0];exact bA (bR w) _
 have HX0:=AA X1;have hwz:=X1.lt;rw [<- hW0];clear hW0 X1;go_loopw [3,4] (fun s i wr=>∃ (k:Nat) (sl:List (Sg×SV)),k<=al.length/\i=.int .i64 k/\sl.map (·.1)=((al.take k).flatMap fun a=>Jv a.1 (AV p a.1))/\Own wr W0.heap.size 202 12 Yu s sl/\AU W0 wr) (fun _ i _=>al.length-(intOf i).toNat)
 case atStart => exact ⟨0,[],Bv _,rfl,rfl,Own.nil _ _ _ _ _,bR W0⟩
 case round =>
  obtain ⟨k,sl,hk,rfl,hsl,hown,hb⟩:=hrel;have Hb:=AA hb;have FC:=AA hown;have UL:=AA hsl;have X1:=HX0.out.keep hb;have hsz:=hb.size;clear hb hown hsl;obtain ⟨BF,BG,BH,BI,-,-,-⟩:=X1.Az;by_cases hlt:k<al.length
  case neg =>
   have hE:al.take k=al:=IQ AB;have Hf:=AA (show sl.map (·.1)=al.flatMap fun a=>Jv a.1 (AV p a.1) by rw [UL.out,hE]);clear hE;go_wp2;go_ret;exact ⟨sl,_,Hf.out,rfl,bT FN Hb.out,FC.out.ES FN.size⟩
  obtain ⟨b,o,rfl,hlb,c0,c1,c2,c3,c4,c5⟩:=(GN.out.mono (bT FN Hb.out)).ar hlt;have hvk:=(HV.out k hlt);obtain ⟨Av,cv,hv,-⟩:=hvk;have hvk:=(HV.out k hlt);rw [hv] at c3 hvk;generalize hvl:al[k].1.via.length=vl at c3;have tV:=AA hvl;have UH:=AA hvk;have ah1:=AA (DW.out k hlt);have q1:0<=(k:Int):=by omega
  have q2:(k:Int)<al.length:=by omega
  have Hlk:=AA (HL.out (k+1));clear hvk hv hvl;have TL:∀ W,AU w W->Calls Tryz.prog 128 #[.agg #[vn,.slice (some ⟨b,o,none⟩) al.length ca,vf],.agg #[.int .i64 al[k].1.id,.int .i64 al[k].1.fr,.int .i64 al[k].1.dst,.slice Av vl cv,.int .i64 al[k].1.left,.int .i64 al[k].1.right]] W (ac9 W (AV p al[k].1) (JY p al[k].1)):=fun W hW=>by
   have:=acA _ _ p al[k].1 _ (HP.out.mono hW) (UH.out.mono hW) ah1.out
   rw [tV.out] at this;exact this
  have HT:=AA TL;clear TL;go_upto_region 5 with fail;go_cut [5] (fun s wx=>∃ A1 n1 c1,s=.slice A1 n1 c1/\n1=(AV p al[k].1).length/\Own wx wr.heap.size 39 2 Ee (.slice A1 n1 c1) (AV p al[k].1)/\AU wr wx)
  case first =>
   refine DJ (wr) (.run 6 0 0 (.call 6 127 (.run 5 7 127 (.done)))) fun CU QR Ae Ah hS=>?_
   iterate 6 refine Aj ?_
   refine Bj ?_;clear hS;intro K hK AQ;go_simp;refine (HT.out _ (bT (bT FN Hb.out) AQ.out)).mono ?_;rintro e CX ⟨v1,rfl,CV,ho1⟩;have hS:Since wr CX:=bT (w:=wr) AQ.out CV;clear AQ;refine hK.out _ _ hS (fun _=>?_);clear hK K
   try simp only [pu]
   iterate 5 refine Aj ?_
   refine DF ?_;clear hS Ah Ae;intro hB;obtain ⟨A1,c1',rfl,-⟩:=Own.sl ho1;go_wp2;go_meet
   case rel => exact ⟨A1,_,c1',rfl,rfl,ho1.ES Ak,hB⟩
  case rest =>
   obtain ⟨A1,n1,c1',rfl,rfl,ah2,hBc⟩:=hcut;have hown1:Own wc W0.heap.size 202 12 Yu _ sl:=FC.out.keep hBc;have Bc:=bT Hb.out hBc;have ayn:=hBc.size;have hmx:(AV p al[k].1).length<=maxLen:=by rw [Ey];have:=ah1.out;exact DN AB
   unfold maxLen at hmx;have hpl2:2<=(AV p al[k].1).length:=by rw [Ey];omega
   generalize uI:AV p al[k].1=PP at *;have uJ:=AA uI;obtain ⟨M,hM⟩:∃ M,PP.length=M+1:=⟨PP.length-1,AB⟩;have HM:=AA hM;have hM1:M<PP.length:=by omega
   have Hp0:=AA ah2;have Hs0:=AA hown1;have HBc:=AA Bc;clear ah2 hown1 Bc hBc uI hM HT X1 BF BG BH BI c0 c1 c2 c3 c4 c5;obtain ⟨wo,rfl⟩:=BR wr;go_wp2_with fail;go_loopw [3,7] (fun s i wx=>∃ (j:Nat) (sx:List (Sg×SV)),j+1<=PP.length/\i=.int .i64 j/\sx.map (·.1)=((al.take k).flatMap fun a=>Jv a.1 (AV p a.1))++(Jv al[k].1 PP).take j/\Own wx W0.heap.size 202 12 Yu s sx/\Own wx wo.heap.size 39 2 Ee (.slice A1 PP.length c1') PP/\AU W0 wx) (fun _ i _=>PP.length-(intOf i).toNat)
   case atStart => exact ⟨0,sl,AB,rfl,by rw [UL.out];simp,Hs0.out,Hp0.out,HBc.out⟩
   case round =>
    obtain ⟨j,sx,hj,rfl,hsx,vK,hpx,hbx⟩:=hrel;have Fv:=AA hbx;have Xg:=AA vK;have aBI:=AA hpx;have iU:=AA hsx;have abh:=hbx.size;have X1:=HX0.out.keep hbx;clear hbx vK hpx hsx
    try clear BF BG BH BI
    obtain ⟨BF,BG,BH,BI,-,-,-⟩:=X1.Az;by_cases hlj:j+1<PP.length
    case neg =>
     have hjm:j=M:=by have:=HM.out;omega
     have Hf:=AA (show sx.map (·.1)=((al.take (k+1)).flatMap fun a=>Jv a.1 (AV p a.1)) by
      rw [iU.out,F7 hlt,LC,IQ (l:=Jv al[k].1 PP) (by rw [vJ];omega)];simp [uJ.out])
     clear hjm;go_wp2;go_roundw
     case rel => exact ⟨k+1,sx,AB,BJ,Hf.out,Xg.out,Fv.out⟩
     case measure => exact BL
    obtain ⟨b',o',Eo,QJ,d0,d1,d2,d3,d4,d5⟩:=(GN.out.mono (bT FN Fv.out)).ar hlt;simp only [JM,Addr.mk.injEq,and_true] at Eo;obtain ⟨rfl,rfl⟩:=Eo;have hvk:=(HV.out k hlt);obtain ⟨Av',cv',hv,-⟩:=hvk;have hrow:=Own.sl aBI.out;obtain ⟨A1',anQ,he1,-,-,hrow⟩:=hrow;injection he1 with he1 _ he3;subst he1;subst he3;obtain ⟨pb,po,abj,hlp,f0,f1⟩:=hrow.pt (k:=j) AB;subst abj;obtain ⟨pb',po',uV,ah3,f2,f3⟩:=hrow.pt (k:=j+1) hlj;simp only [JM,Addr.mk.injEq,and_true] at uV;obtain ⟨rfl,rfl⟩:=uV;rw [hv] at d3;have Hvv:=AA hv;clear hrow hv;have nM:IntKind.i64.wrap ((j:Int)+1)=(j:Int)+1:=D6 _ AB;have w2e:IntKind.i64.wrap ((PP.length:Int)-1)=(M:Int):=by have:=HM.out;rw [D6 _ AB];omega
    have r1:0<=(j:Int):=by omega
    have r2:(j:Int)<PP.length:=by omega
    have r3:0<=(j:Int)+1:=by omega
    have r4:(j:Int)+1<PP.length:=by omega
    have r5:((j:Int)+1).toNat=j+1:=by omega
    have r6:0<=(k:Int):=by omega
    have r7:(k:Int)<al.length:=by omega
    have hb0:b<w.heap.size:=by
     obtain ⟨b2,o2,e2,h2,-⟩:=GN.out.ar hlt;simp only [JM,Addr.mk.injEq,and_true] at e2;omega
    have n1:some w.heap.size≠(u3:Value).ownBlock:=fun e=>by have:=(Xg.out.lt _ e.symm).1;omega
    have n2:some b≠(u3:Value).ownBlock:=fun e=>by have:=(Xg.out.lt _ e.symm).1;omega
    have n3:some pb≠(u3:Value).ownBlock:=Own.apart aBI.out Xg.out Aw pb rfl;have Hb0:=AA hb0;have ah4:=AA (show sx.length+1<=1052673 by
     have h1:=Hlk;have h2:=congrArg List.length iU.out;rw [Cj,ER,Iw,vJ] at h2;have h3:=HL.out (k+1);rw [F7 hlt,LC,ER] at h3;simp only [KI,aah,JA,vJ,uJ.out] at h3;omega)
    clear hb0;go_upto_region 9 with fail;refine UY (wr) ((u3:Value).ownBlock) (.run 20 0 0 (.call 20 2097151 (.call 21 4194303 (.take 22 8388607 (.done))))) fun CU QR Ae Ah hS=>?_
    iterate 20 refine Aj ?_
    refine Bj ?_;clear hS;intro K hK AQ;go_simp;refine hK.out _ _ (gA AQ.out _) (fun hS=>?_);clear hK K AQ
    try simp only [pu]
    refine Bj ?_;clear hS;intro K hK AQ;refine JV (.tmp 32) (.tmp 52) _ rfl (base:=W0.heap.size) anz ao0 ao1 rfl ((Xg.out.drew).alloc _) rfl (l2:=[((⟨al[k].1,j,PP.length-1,PP[j],PP[j+1]⟩:Sg),(⟨Av',al[k].1.via.length,cv'⟩:SV))]) (Sl.ao2 (n:=(M:Int)) (by have:=HM.out;simp only [];omega) (AO.made Ak _ _)) (by have:=ah4.out;simp only [IU,LX];omega) (by have:=ah4.out;simp only [IU,LX];omega) DT ?_;intro v3 wr3 ho3 hg hat;have hS:JU wr (u3:Value).ownBlock wr3:=gT AQ.out hg;clear AQ;refine hK.out _ _ hS (fun _=>?_);clear hK K
    try simp only [pu]
    refine Aj ?_;refine Qq ?_;clear hS Ah Ae;intro hB;have uX:=AA ho3;have Hpy:=AA (aBI.out.grown hB (fun g hg=>Own.apart aBI.out Xg.out Aw g hg));have Hby:=AA (agQ Fv.out abh hB (fun g hg=>(Xg.out.lt g hg).1));have Hsy:=AA (show (sx++[((⟨al[k].1,j,PP.length-1,PP[j],PP[j+1]⟩:Sg),(⟨Av',al[k].1.via.length,cv'⟩:SV))]).map (·.1)=((al.take k).flatMap fun a=>Jv a.1 (AV p a.1))++(Jv al[k].1 PP).take (j+1) by
     rw [GI,iU.out,anw _ _ _ hlj,KW];rfl)
    clear ho3 hg hat hB d0 d1 d2 d3 d4 d5 f0 f1 f2 f3 nM w2e r1 r2 r3 r4 r5 r6 r7 n1 n2 n3 X1 BF BG BH BI;go_wp2;go_roundw
    case rel => exact ⟨j+1,sx++[((⟨al[k].1,j,PP.length-1,PP[j],PP[j+1]⟩:Sg),(⟨Av',al[k].1.via.length,cv'⟩:SV))],AB,BJ,Hsy.out,uX.out,Hpy.out,Hby.out⟩
    case measure => exact BL
