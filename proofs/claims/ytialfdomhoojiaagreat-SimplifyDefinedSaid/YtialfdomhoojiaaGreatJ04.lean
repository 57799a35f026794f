import Derived.Test.YtialfdomhoojiaaGreatJ03
set_option linter.unusedSimpArgs false
set_option linter.unusedVariables false
set_option maxRecDepth 100000
set_option maxHeartbeats 4000000
namespace Go.Proofs.YtialfdomhoojiaaGreat
open Go.RowKit
theorem fE {B:Nat} {W w:World} (hB:B<=W.heap.size) (h:Below B W w) (o:Obj):Below B W (w.alloc o):=h.alloc (avZ hB h.size) o
theorem jv {B b i:Nat} {W w:World} (h:Below B W w) (hb:B<=b) (u:Value):Below B W (w.setCell ⟨b,i,none⟩ u):=h.setCell (p:=⟨b,i,none⟩) hb u
def AZ (x:Ar×SV):List Value:=[.int .i64 x.1.id,.int .i64 x.1.fr,.int .i64 x.1.dst,.slice x.2.a x.2.n x.2.c,.int .i64 x.1.left,.int .i64 x.1.right]
theorem UN (x:Ar×SV):(AZ x).length=6:=rfl
theorem adH (x:Ar×SV):∀ u∈AZ x,u.oneCell'=true:=by simp [AZ,Value.oneCell']
def Fj (x:Ar×SV):Ar×Value:=(x.1,.slice x.2.a x.2.n x.2.c)
def PX:Value->SV
 | .slice a n c=>⟨a,n,c⟩
 | _=>⟨none,0,0⟩
theorem PY (l:List (Ar×SV)):(l.map Fj).flatMap J4=l.flatMap AZ:=by rw [List.flatMap_map];rfl
theorem H9.sv {w:World} {al:List (Ar×Value)} (h:H9 w al):∃ bl:List (Ar×SV),al=bl.map Fj:=by
 refine ⟨al.map fun x=>(x.1,PX x.2),?_⟩;rw [awc];have:∀ x∈al,(Fj ∘ fun x:Ar×Value=>(x.1,PX x.2)) x=x:=fun x hx=>by
  obtain ⟨k,hk,rfl⟩:=avI.1 hx;obtain ⟨A,c,hv,-⟩:=h k hk
  show (al[k].1,Value.slice (PX al[k].2).a (PX al[k].2).n (PX al[k].2).c)=al[k]
  rw [Prod.ext_iff];exact ⟨rfl,by rw [hv];rfl⟩
 exact (List.map_id al).symm.trans (List.map_congr_left fun x hx=>(this x hx).symm)
theorem akg {α:Type} (f:α->List Value) (n:Nat) (hn:∀ a,(f a).length=n) (l:List α) (i:Nat) (hi:i<l.length) (y:α) (m:Nat) (hm:m<l.length*n) :
  ((l.set i y).flatMap f)[m]? = if m / n=i then (f y)[m % n]? else (l.flatMap f)[m]? := by
 have hn0:0<n:=by
  rcases Nat.eq_zero_or_pos n with h0 | h0
  · subst h0;omega
  · exact h0
 have h1:m / n<l.length:=Nat.div_lt_of_lt_mul (by rw [Nat.mul_comm];exact hm);have h2:m % n<n:=Nat.mod_lt _ hn0;have e1:=flat_get f n hn (l.set i y) (m / n) (m % n) (by simpa using h1) h2;have e2:=flat_get f n hn l (m / n) (m % n) h1 h2;rw [Nat.div_add_mod'] at e1 e2;rw [e1,e2,av8];by_cases e:i=m / n
 · rw [if_pos e,if_pos e.symm]
 · rw [if_neg e,if_neg (fun h=>e h.symm)]
theorem Own.Nv {α:Type} {w:World} {base g n c i j:Nat} {e:TypeId} {size:Nat} {f:α->List Value} (hf:∀ a,(f a).length=size) {l:List α} (h:Own w base e size f (.slice (some ⟨g,0,none⟩) n c) l) (hi:i<l.length) (hj:j<size) (y:α) (u:Value) (hy:f y=(f l[i]).set j u) :
  Own (w.setCell ⟨g,i*size+j,none⟩ u) base e size f (.slice (some ⟨g,0,none⟩) n c) (l.set i y):=by
 obtain ⟨h1,h2⟩:=h;rcases h2 with ⟨hv,h0⟩ | ⟨g',cap,cur,hv,hg,hh,hnc,hcm,hcs,hx⟩
 · cases hv
 ·injection hv with e1 e2 e3;injection e1 with e1;injection e1 with e1 _ _;subst e1 e3;have hl:(l.set i y).length=l.length:=by simp
  have hs0:0<size:=by omega
  refine ⟨by rw [flat_length f size hf],.inr ⟨g,c,_,by rw [hl,e2],hg,ah.fF hh (i*size+j) u,by rw [hl];exact hnc,hcm,by simpa using hcs,?_⟩⟩;apply List.ext_getElem?;intro m;rw [List.getElem?_take,hl];by_cases hm:m<l.length*size
  ·rw [if_pos hm,akg f size hf l i hi y m hm];have hcur:(l.flatMap f)[m]? = cur[m]? := by
    rw [<- hx,List.getElem?_take,if_pos hm];simp
   have hmc:m<cur.size:=by rw [hcs];have:=Nat.mul_le_mul_right size hnc;omega
   have hdm:=Nat.div_add_mod m size;have hml:=Nat.mod_lt m hs0;rw [hcur];simp only [Array.getElem?_toList,Array.getElem?_setIfInBounds,Array.size_setIfInBounds];by_cases zo:m / size=i
   ·rw [if_pos zo,hy,List.getElem?_set];have hm2:m=i*size+m % size:=by rw [<- zo,Nat.mul_comm];omega
    by_cases hmj:j=m % size
    ·rw [if_pos hmj,if_pos (show j<(f l[i]).length by rw [hf];exact hj),if_pos (show i*size+j=m by omega)]
     first | rw [if_pos hmc] | rw [if_pos (show i*size+j<cur.size by omega)]
    ·rw [if_neg hmj,if_neg Pe];have e2:=flat_get f size hf l i (m % size) hi hml;rw [<- hm2] at e2;rw [<- e2,hcur]
   · rw [if_neg zo,if_neg (fun e=>zo (by rw [<- e,Nat.mul_comm,Nat.mul_add_div hs0,Nat.div_eq_of_lt hj];rfl))]
  · rw [if_neg hm,awj (by rw [flat_length f size hf,hl];omega)]
def C9 (o p:Pt):Bool:=decide (p.y<o.y) || (decide (p.y=o.y) && decide (p.x<o.x))
def xX (o a b:Pt):Bool:=eu [o,a,b] && (!decide (a=o) && (!decide (b=o) && (if C9 o a=C9 o b then decide (0<tw o a b) else C9 o b)))
def Fp (o a:Pt):Int:=if 0<a.x-o.x/\0<=a.y-o.y then 0 else if a.x-o.x<=0/\0<a.y-o.y then 1 else if a.x-o.x<0 then 2 else 3
def Fq (o a b:Pt):Bool:=eu [o,a,b] && (!decide (a=o) && (!decide (b=o) && (decide (Fp o a<Fp o b) || (decide (Fp o a=Fp o b) && decide (0<aP o a o b)))))
def fZ (x y:Int):Prop:=y<0\/(y=0/\x<0)
def qI (ux uy vx vy:Int):Prop:=(¬ fZ ux uy/\fZ vx vy)\/((fZ ux uy↔fZ vx vy)/\0<ux*vy-uy*vx)
theorem akh (ux uy:Int):¬ qI ux uy ux uy:=by
 rintro (⟨h1,h2⟩ | ⟨-,h⟩)
 · exact h1 h2
 · rw [Int.mul_comm uy ux] at h;omega
theorem three (ux uy vx vy wx wy:Int):vy*(ux*wy-uy*wx)=uy*(vx*wy-vy*wx)+wy*(ux*vy-uy*vx):=by grind
theorem adI {v A:Int} (hv:0<v) (h:0<v*A):0<A:=by
 rcases Int.lt_or_le 0 A with h1 | h1
 · exact h1
 · have:=Int.mul_nonpos_of_nonneg_of_nonpos (Int.le_of_lt hv) h1;omega
theorem aki {v A:Int} (hv:0<v) (h:0<=v*A):0<=A:=by
 rcases Int.lt_or_le A 0 with h1 | h1
 · have:=Int.mul_neg_of_pos_of_neg hv h1;omega
 · exact h1
def Ip (x y:Int):Prop:=0<y\/(y=0/\0<x)
theorem adJ {ux uy vx vy wx wy:Int} (hu:Ip ux uy) (hv:Ip vx vy) (hw:Ip wx wy) (h1:0<=ux*vy-uy*vx) (h2:0<=vx*wy-vy*wx) :
  0<=ux*wy-uy*wx/\(0<ux*vy-uy*vx\/0<vx*wy-vy*wx->0<ux*wy-uy*wx):=by
 have e:=three ux uy vx vy wx wy;unfold Ip at *;rcases hv with hv | ⟨rfl,hv⟩
 ·have hw':0<wy:=by
   rcases hw with hw | ⟨rfl,hw⟩
   · exact hw
   ·have:=Int.mul_pos hv hw
    rw [Int.mul_zero] at h2;omega
  have a1:0<=uy*(vx*wy-vy*wx):=Int.mul_nonneg Pe h2;have a2:0<=wy*(ux*vy-uy*vx):=Int.mul_nonneg Pe h1;refine ⟨aki hv Pe,fun h=>adI hv ?_⟩;rcases h with h | h
  · have:=Int.mul_pos hw' h;omega
  ·rcases hu with hu | ⟨rfl,hu⟩
   · have:=Int.mul_pos hu h;omega
   ·have h3:=Int.mul_pos hu hv;have:=Int.mul_pos hw' (show 0<ux*vy-0*vx by rw [Int.zero_mul];omega)
    omega
 ·have hu':uy=0:=by
   rcases hu with hu | ⟨hu,-⟩
   ·have:=Int.mul_pos hu hv
    rw [Int.mul_zero] at h1;omega
   · exact hu
  subst hu';have hu2:0<ux:=by omega
  rw [Int.zero_mul] at h2 ⊢;rw [Int.zero_mul,Int.mul_zero];have hwy:0<=wy:=by omega
  have a1:=Int.mul_nonneg (Int.le_of_lt hu2) hwy;refine ⟨by omega,fun h=>?_⟩;rcases h with h | h
  · omega
  ·have:0<wy:=adI hv Pe
   have:=Int.mul_pos hu2 this
   omega
theorem Zz {x y:Int} (h0:¬ (x=0/\y=0)):¬ fZ x y↔Ip x y:=by
 unfold fZ Ip;omega
theorem ZA {x y:Int}:fZ x y↔Ip (-x) (-y):=by
 unfold fZ Ip;omega
theorem adK {ux uy vx vy wx wy:Int} (hu:¬ (ux=0/\uy=0)) (hv:¬ (vx=0/\vy=0)) (hw:¬ (wx=0/\wy=0)) (huv:fZ ux uy↔fZ vx vy) (hvw:fZ vx vy↔fZ wx wy) (h1:0<=ux*vy-uy*vx) (h2:0<=vx*wy-vy*wx) :
  0<=ux*wy-uy*wx/\(0<ux*vy-uy*vx\/0<vx*wy-vy*wx->0<ux*wy-uy*wx):=by
 by_cases hl:fZ vx vy
 ·have:=adJ (ZA.1 (huv.2 hl)) (ZA.1 hl) (ZA.1 (hvw.1 hl))
  simp only [Int.neg_mul_neg] at this;exact this h1 h2
 · exact adJ ((Zz hu).1 (fun h=>hl (huv.1 h))) ((Zz hv).1 hl) ((Zz hw).1 (fun h=>hl (hvw.2 h))) h1 h2
theorem akj {ux uy vx vy wx wy:Int} (hu:¬ (ux=0/\uy=0)) (hv:¬ (vx=0/\vy=0)) (hw:¬ (wx=0/\wy=0)) (h1:qI ux uy vx vy) (h2:qI vx vy wx wy):qI ux uy wx wy:=by
 unfold qI at *;rcases h1 with ⟨a1,a2⟩ | ⟨a1,a2⟩
 ·rcases h2 with ⟨b1,b2⟩ | ⟨b1,b2⟩
  · exact absurd a2 b1
  · exact .inl ⟨a1,b1.1 a2⟩
 ·rcases h2 with ⟨b1,b2⟩ | ⟨b1,b2⟩
  · exact .inl ⟨fun h=>b1 (a1.1 h),b2⟩
  · exact .inr ⟨a1.trans b1,(adK hu hv hw a1 b1 Pe Pe).2 (.inl a2)⟩
theorem akk {ux uy vx vy wx wy:Int} (hu:¬ (ux=0/\uy=0)) (hv:¬ (vx=0/\vy=0)) (hw:¬ (wx=0/\wy=0)) (h1:¬ qI ux uy vx vy) (h2:¬ qI vx vy wx wy):¬ qI ux uy wx wy:=by
 have key:∀ {ax ay bx b:Int},¬ qI ax ay bx b->(fZ ax ay/\¬ fZ bx b)\/((fZ bx b↔fZ ax ay)/\0<=bx*ay-b*ax):=by
  intro ax ay bx b h;unfold qI at h;by_cases l1:fZ ax ay
  ·by_cases l2:fZ bx b
   ·refine .inr ⟨by simp [l1,l2],?_⟩;rw [Int.mul_comm bx,Int.mul_comm b];rcases Int.lt_or_le (ay*bx-ax*b) 0 with h3 | h3
    · exact absurd (.inr ⟨by simp [l1,l2],by omega⟩) h
    · exact h3
   · exact .inl ⟨l1,l2⟩
  ·by_cases l2:fZ bx b
   · exact absurd (.inl ⟨l1,l2⟩) h
   ·refine .inr ⟨by simp [l1,l2],?_⟩;rw [Int.mul_comm bx,Int.mul_comm b];rcases Int.lt_or_le (ay*bx-ax*b) 0 with h3 | h3
    · exact absurd (.inr ⟨by simp [l1,l2],by omega⟩) h
    · exact h3
 intro h3;rcases key h1 with ⟨a1,a2⟩ | ⟨a1,a2⟩
 ·rcases key h2 with ⟨b1,b2⟩ | ⟨b1,b2⟩
  · exact a2 b1
  ·rcases h3 with ⟨c1,c2⟩ | ⟨c1,c2⟩
   · exact c1 a1
   · exact a2 (b1.1 (c1.1 a1))
 ·rcases key h2 with ⟨b1,b2⟩ | ⟨b1,b2⟩
  ·rcases h3 with ⟨c1,c2⟩ | ⟨c1,c2⟩
   · exact c1 (a1.1 b1)
   · exact b2 (c1.1 (a1.1 b1))
  ·rcases h3 with ⟨c1,c2⟩ | ⟨c1,c2⟩
   · exact c1 (a1.1 (b1.1 c2))
   ·have:=(adK hw hv hu b1 a1 b2 a2).1
    rw [Int.mul_comm wx,Int.mul_comm wy] at this;omega
def Fv (x y:Int):Int:=if 0<x/\0<=y then 0 else if x<=0/\0<y then 1 else if x<0 then 2 else 3
theorem adL {x y:Int} (h:¬ (x=0/\y=0)):(Fv x y=0/\0<x/\0<=y)\/(Fv x y=1/\x<=0/\0<y)\/(Fv x y=2/\x<0/\y<=0)\/(Fv x y=3/\0<=x/\y<0):=by
 unfold Fv;split
 · omega
 ·split
  · omega
  ·split
   · omega
   · omega
theorem akl {ux uy vx vy:Int} (hu:¬ (ux=0/\uy=0)) (hv:¬ (vx=0/\vy=0)):(Fv ux uy<Fv vx vy\/(Fv ux uy=Fv vx vy/\0<ux*vy-uy*vx))↔qI ux uy vx vy:=by
 unfold qI;have np:∀ {a b:Int},0<=a->b<=0->a*b<=0:=fun h1 h2=>Int.mul_nonpos_of_nonneg_of_nonpos h1 h2;have pn:∀ {a b:Int},a<=0->0<=b->a*b<=0:=fun h1 h2=>Int.mul_nonpos_of_nonpos_of_nonneg h1 h2;rcases adL hu with ⟨e1,a1,a2⟩ | ⟨e1,a1,a2⟩ | ⟨e1,a1,a2⟩ | ⟨e1,a1,a2⟩<;>rcases adL hv with ⟨e2,b1,b2⟩ | ⟨e2,b1,b2⟩ | ⟨e2,b1,b2⟩ | ⟨e2,b1,b2⟩<;>rw [e1,e2]
 case inl.inr.inl =>
  have h1:=Int.mul_pos a1 b2;have h2:=np a2 b1;have l1:¬ fZ ux uy:=by unfold fZ;omega
  have l2:¬ fZ vx vy:=by unfold fZ;omega
  simp only [l1,l2,iff_self,true_and,not_false_eq_true,and_false,false_or,not_true_eq_false,false_and];omega
 case inr.inl.inl =>
  have h1:=pn a1 b2;have h2:=Int.mul_pos a2 b1;have l1:¬ fZ ux uy:=by unfold fZ;omega
  have l2:¬ fZ vx vy:=by unfold fZ;omega
  simp only [l1,l2,iff_self,true_and,not_false_eq_true,and_false,false_or,not_true_eq_false,false_and];omega
 case inr.inr.inl.inr.inr.inr =>
  have h1:=Int.mul_pos_of_neg_of_neg a1 b2;have h2:=pn a2 b1;have l1:fZ ux uy:=by unfold fZ;omega
  have l2:fZ vx vy:=by unfold fZ;omega
  simp only [l1,l2,iff_self,true_and,not_false_eq_true,and_false,false_or,not_true_eq_false,false_and];omega
 case inr.inr.inr.inr.inr.inl =>
  have h1:=np a1 b2;have h2:=Int.mul_pos_of_neg_of_neg a2 b1;have l1:fZ ux uy:=by unfold fZ;omega
  have l2:fZ vx vy:=by unfold fZ;omega
  simp only [l1,l2,iff_self,true_and,not_false_eq_true,and_false,false_or,not_true_eq_false,false_and];omega
 all_goals
  first
  | ((have l1:¬ fZ ux uy:=by unfold fZ;omega);(have l2:¬ fZ vx vy:=by unfold fZ;omega);(simp only [l1,l2,iff_self,true_and,not_false_eq_true,and_false,false_or,not_true_eq_false,false_and];omega))
  | ((have l1:fZ ux uy:=by unfold fZ;omega);(have l2:fZ vx vy:=by unfold fZ;omega);(simp only [l1,l2,iff_self,true_and,not_false_eq_true,and_false,false_or,not_true_eq_false,false_and];omega))
  | ((have l1:¬ fZ ux uy:=by unfold fZ;omega);(have l2:fZ vx vy:=by unfold fZ;omega);simp [l1,l2])
  | ((have l1:fZ ux uy:=by unfold fZ;omega);(have l2:¬ fZ vx vy:=by unfold fZ;omega);simp [l1,l2])
theorem adM (o p:Pt):C9 o p=true↔fZ (p.x-o.x) (p.y-o.y):=by
 unfold C9 fZ;simp only [Bool.or_eq_true,avR,avQ];omega
theorem PZ {a o:Pt}:a≠o↔¬ (a.x-o.x=0/\a.y-o.y=0):=by
 rw [Ne,Pt.ext_iff'];omega
def gG (o a b:Pt):Prop:=qI (a.x-o.x) (a.y-o.y) (b.x-o.x) (b.y-o.y)
theorem ZC (o a b:Pt):xX o a b=true↔eu [o,a,b]=true/\a≠o/\b≠o/\gG o a b:=by
 unfold xX;simp only [avR,Bool.not_eq_true',avX];refine and_congr_right fun _=>and_congr_right fun _=>and_congr_right fun _=>?_;unfold gG qI;rw [<- adM,<- adM]
 show _↔_\/(_/\0<tw o a b)
 cases C9 o a<;>cases C9 o b<;>simp
theorem akm (o a b:Pt):Fq o a b=true↔eu [o,a,b]=true/\a≠o/\b≠o/\gG o a b:=by
 unfold Fq;simp only [avR,Bool.not_eq_true',avX];refine and_congr_right fun _=>and_congr_right fun h1=>and_congr_right fun h2=>?_;rw [Bool.or_eq_true,avR,avQ,avQ,avQ];exact akl (PZ.1 h1) (PZ.1 h2)
theorem akn (o a b:Pt):xX o a b=Fq o a b:=by
 rw [Bool.eq_iff_iff,ZC,akm]
def ru (s t:Sg) (x:Nd):Bool:=CZ s.arc x.id && CZ t.arc x.id && nV s.a s.b x.pt && nV t.a t.b x.pt
def sZ (p:Pl) (s t:Sg):Bool:=if iQ s.a s.b t.a t.b=1 then p.nodes.any (ru s t) else iQ s.a s.b t.a t.b == 0
theorem ako (v:Value) (p:Pl) (s t:Sg) (A A':Option Addr) (n n' c c':Nat) (w:World) (h:bQ w v p) :
  Calls Tryz.prog 191 #[v,vW s (.slice A n c),vW t (.slice A' n' c')] w fun e w'=>e=.returned (.bool (sZ p s t))/\Below w.heap.size w w':=by
 have TM:∀ W,Calls Tryz.prog 248 #[aK s.a,aK s.b,aK t.a,aK t.b] W _:=fun W=>adB s.a s.b t.a t.b W;have TE:∀ (a:Ar) (A:Option Addr) (n c:Nat) (id:Int) W,Calls Tryz.prog 249 #[.agg #[.int .i64 a.id,.int .i64 a.fr,.int .i64 a.dst,.slice A n c,.int .i64 a.left,.int .i64 a.right],.int .i64 id] W _:=fun a A n c id W=>akf a A n c id W;have TO:∀ p q r:Pt,∀ W,Calls Tryz.prog 150 #[aK p,aK q,aK r] W _:=fun p q r W=>Za p q r W;unfold aK at TM TO;have HM:=avE TM;clear TM;have HE:=avE TE;clear TE;have HO:=avE TO;clear TO;obtain ⟨_,va,vf,al,rfl,-,⟨An,cn,rfl,hn1,hn2,hR⟩,-,-⟩:=h;unfold maxLen at hn2;have HR:=avE hR;clear hR;unfold vW;obtain ⟨q,hq⟩:∃ q,sZ p s t=q:=⟨_,rfl⟩;rw [hq];unfold sZ at hq;generalize p.nodes=l at *;have Hq:=avE hq;clear hq;go_enter Tryz.func191,Tryz.ntmps191;go_wp2_with fail;refine (HM.out _).mono ?_;rintro e w1 ⟨rfl,hb1⟩;have Bw:Below w.heap.size w w1:=by
  exact eF
 have X2:ah _ (w.heap.size) 26 #[.slice An l.length cn,va,vf]:=ah.keep (by repeat (first | exact ah.made ars _ _ | refine ah.alloc ?_ _)) hb1;have X3:ah _ (w.heap.size+1) 202 #[.int .i64 s.arc.id,.int .i64 s.arc.fr,.int .i64 s.arc.dst,.slice A n c,.int .i64 s.arc.left,.int .i64 s.arc.right,.int .i64 s.i,.int .i64 s.n,.int .i64 s.a.x,.int .i64 s.a.y,.int .i64 s.b.x,.int .i64 s.b.y]:=ah.keep (by repeat (first | exact ah.made ars _ _ | refine ah.alloc ?_ _)) hb1;have X4:ah _ (w.heap.size+1+1) 202 #[.int .i64 t.arc.id,.int .i64 t.arc.fr,.int .i64 t.arc.dst,.slice A' n' c',.int .i64 t.arc.left,.int .i64 t.arc.right,.int .i64 t.i,.int .i64 t.n,.int .i64 t.a.x,.int .i64 t.a.y,.int .i64 t.b.x,.int .i64 t.b.y]:=ah.keep (by repeat (first | exact ah.made ars _ _ | refine ah.alloc ?_ _)) hb1;clear hb1;generalize iQ s.a s.b t.a t.b=m at *;by_cases h1:m=1
 case neg =>
  have hf:=avE (show (m == 0)=q by rw [<- Hq.out,if_neg h1]);have h1':(m != 1)=true:=by simpa using h1
  clear h1;go_wp2;go_ret;exact ⟨aY hf.out,Bw⟩
 subst h1;have hf:=avE (show l.any (ru s t)=q by rw [<- Hq.out,if_pos rfl]);clear Hq;have dh:=avE X2;have dW:=avE X3;have dI:=avE X4;have HB:=avE Bw;clear X2 X3 X4 Bw;go_wp2_with fail;go_loopw [8] (fun i wr=>∃ k:Nat,k<=l.length/\i=.int .i64 k/\Below w1.heap.size w1 wr/\∀ j (hj:j<l.length),j<k->ru s t l[j]=false) (fun i _=>l.length-(intOf i).toNat)
 case atStart => exact ⟨0,avK _,rfl,bR w1,fun j _ h=>by omega⟩
 case round =>
  obtain ⟨k,hk,rfl,hb,hno⟩:=hrel;have Hb:=avE hb;have Hno:=avE hno;have X2:=dh.out.keep hb;have X3:=dW.out.keep hb;have X4:=dI.out.keep hb;clear hb hno;obtain ⟨aG,aI,aJ,aO,-,-,-⟩:=X2.aF;obtain ⟨bH,bU,bY,fP,pq,pz,pF,AQ,AU,AV,AX,AY,bH,-,-,-,-,-,-,-,-,-,-,-,-⟩:=X3.xW;obtain ⟨aV,aX,bn,fA,mQ,mV,mW,Iq,Ir,Iu,Iw,Iy,aV,-,-,-,-,-,-,-,-,-,-,-,-⟩:=X4.xW;by_cases hlt:k<l.length
  case neg =>
   have hg:=avE (y7 l (ru s t) (fun j hj=>Hno.out j hj Pe));go_wp2;go_ret;exact ⟨aY (by rw [<- hf.out,hg.out]),bT HB.out Hb.out⟩
  obtain ⟨b,o,rfl,hlb,c0,c1,c2⟩:=(HR.out.mono (bT HB.out Hb.out)).nd hlt;have hx:=avE (show ru s t l[k]=(CZ s.arc l[k].id && CZ t.arc l[k].id && nV s.a s.b l[k].pt && nV t.a t.b l[k].pt) from rfl);go_wp2_with fail;refine (HE.out _ _ _ _ _ _).mono ?_;rintro e w2 ⟨rfl,hb2⟩;have B2:Below w1.heap.size w1 w2:=bT (bA Hb.out _) hb2;have X5:ah w2 wr.heap.size 45 #[.int .i64 l[k].id,.int .i64 l[k].pt.x,.int .i64 l[k].pt.y]:=(ah.made rfl _ _).keep hb2;replace X2:=(X2.alloc _).keep hb2;replace X3:=(X3.alloc _).keep hb2;replace X4:=(X4.alloc _).keep hb2;clear hb2 c0 c1 c2 hlb
  try clear aG
  try clear aI
  try clear aJ
  try clear aO
  obtain ⟨aG,aI,aJ,aO,-,-,-⟩:=X2.aF
  try clear bH
  try clear bU
  try clear bY
  try clear fP
  try clear pq
  try clear pz
  try clear pF
  try clear AQ
  try clear AU
  try clear AV
  try clear AX
  try clear AY
  try clear bH
  obtain ⟨bH,bU,bY,fP,pq,pz,pF,AQ,AU,AV,AX,AY,bH,-,-,-,-,-,-,-,-,-,-,-,-⟩:=X3.xW
  try clear aV
  try clear aX
  try clear bn
  try clear fA
  try clear mQ
  try clear mV
  try clear mW
  try clear Iq
  try clear Ir
  try clear Iu
  try clear Iw
  try clear Iy
  try clear aV
  obtain ⟨aV,aX,bn,fA,mQ,mV,mW,Iq,Ir,Iu,Iw,Iy,aV,-,-,-,-,-,-,-,-,-,-,-,-⟩:=X4.xW;obtain ⟨bI,bJ,bV,jk,-,-,-⟩:=X5.aF
  cases e1:CZ s.arc l[k].id
  case false =>
   have hy:=avE (show ru s t l[k]=false by rw [hx.out,e1];rfl);clear e1;go_wp2;go_roundw
   case rel => exact ⟨k+1,by omega,by go_num,B2,all_succ (p:=fun x=>ru s t x=false) Hno.out hlt hy.out⟩
   case measure => simp [intOf];omega
  have H1:=avE e1;clear e1;go_wp2_with fail;refine (HE.out _ _ _ _ _ _).mono ?_;rintro e w3 ⟨rfl,hb3⟩;replace B2:Below w1.heap.size w1 w3:=bT B2 hb3;replace X2:=X2.keep hb3;replace X3:=X3.keep hb3;replace X4:=X4.keep hb3;replace X5:=X5.keep hb3;clear hb3
  try clear aG
  try clear aI
  try clear aJ
  try clear aO
  obtain ⟨aG,aI,aJ,aO,-,-,-⟩:=X2.aF
  try clear bH
  try clear bU
  try clear bY
  try clear fP
  try clear pq
  try clear pz
  try clear pF
  try clear AQ
  try clear AU
  try clear AV
  try clear AX
  try clear AY
  try clear bH
  obtain ⟨bH,bU,bY,fP,pq,pz,pF,AQ,AU,AV,AX,AY,bH,-,-,-,-,-,-,-,-,-,-,-,-⟩:=X3.xW
  try clear aV
  try clear aX
  try clear bn
  try clear fA
  try clear mQ
  try clear mV
  try clear mW
  try clear Iq
  try clear Ir
  try clear Iu
  try clear Iw
  try clear Iy
  try clear aV
  obtain ⟨aV,aX,bn,fA,mQ,mV,mW,Iq,Ir,Iu,Iw,Iy,aV,-,-,-,-,-,-,-,-,-,-,-,-⟩:=X4.xW
  try clear bI
  try clear bJ
  try clear bV
  try clear jk
  obtain ⟨bI,bJ,bV,jk,-,-,-⟩:=X5.aF
  cases e2:CZ t.arc l[k].id
  case false =>
   have hy:=avE (show ru s t l[k]=false by rw [hx.out,e2];simp);clear e2;go_wp2;go_roundw
   case rel => exact ⟨k+1,by omega,by go_num,B2,all_succ (p:=fun x=>ru s t x=false) Hno.out hlt hy.out⟩
   case measure => simp [intOf];omega
  have H2:=avE e2;clear e2;go_wp2_with fail;refine (HO.out s.a s.b l[k].pt _).mono ?_;rintro e w4 ⟨rfl,hb4⟩;replace B2:Below w1.heap.size w1 w4:=bT B2 hb4;replace X2:=X2.keep hb4;replace X3:=X3.keep hb4;replace X4:=X4.keep hb4;replace X5:=X5.keep hb4;clear hb4
  try clear aG
  try clear aI
  try clear aJ
  try clear aO
  obtain ⟨aG,aI,aJ,aO,-,-,-⟩:=X2.aF
  try clear bH
  try clear bU
  try clear bY
  try clear fP
  try clear pq
  try clear pz
  try clear pF
  try clear AQ
  try clear AU
  try clear AV
  try clear AX
  try clear AY
  try clear bH
  obtain ⟨bH,bU,bY,fP,pq,pz,pF,AQ,AU,AV,AX,AY,bH,-,-,-,-,-,-,-,-,-,-,-,-⟩:=X3.xW
  try clear aV
  try clear aX
  try clear bn
  try clear fA
  try clear mQ
  try clear mV
  try clear mW
  try clear Iq
  try clear Ir
  try clear Iu
  try clear Iw
  try clear Iy
  try clear aV
  obtain ⟨aV,aX,bn,fA,mQ,mV,mW,Iq,Ir,Iu,Iw,Iy,aV,-,-,-,-,-,-,-,-,-,-,-,-⟩:=X4.xW
  try clear bI
  try clear bJ
  try clear bV
  try clear jk
  obtain ⟨bI,bJ,bV,jk,-,-,-⟩:=X5.aF
  cases e3:nV s.a s.b l[k].pt
  case false =>
   have hy:=avE (show ru s t l[k]=false by rw [hx.out,e3];simp);clear e3;go_wp2;go_roundw
   case rel => exact ⟨k+1,by omega,by go_num,B2,all_succ (p:=fun x=>ru s t x=false) Hno.out hlt hy.out⟩
   case measure => simp [intOf];omega
  have H3:=avE e3;clear e3;go_wp2_with fail;refine (HO.out t.a t.b l[k].pt _).mono ?_;rintro e w5 ⟨rfl,hb5⟩;replace B2:Below w1.heap.size w1 w5:=bT B2 hb5;replace X2:=X2.keep hb5;replace X3:=X3.keep hb5;replace X4:=X4.keep hb5;replace X5:=X5.keep hb5;clear hb5
  try clear aG
  try clear aI
  try clear aJ
  try clear aO
  obtain ⟨aG,aI,aJ,aO,-,-,-⟩:=X2.aF
  try clear bH
  try clear bU
  try clear bY
  try clear fP
  try clear pq
  try clear pz
  try clear pF
  try clear AQ
  try clear AU
  try clear AV
  try clear AX
  try clear AY
  try clear bH
  obtain ⟨bH,bU,bY,fP,pq,pz,pF,AQ,AU,AV,AX,AY,bH,-,-,-,-,-,-,-,-,-,-,-,-⟩:=X3.xW
  try clear aV
  try clear aX
  try clear bn
  try clear fA
  try clear mQ
  try clear mV
  try clear mW
  try clear Iq
  try clear Ir
  try clear Iu
  try clear Iw
  try clear Iy
  try clear aV
  obtain ⟨aV,aX,bn,fA,mQ,mV,mW,Iq,Ir,Iu,Iw,Iy,aV,-,-,-,-,-,-,-,-,-,-,-,-⟩:=X4.xW
  try clear bI
  try clear bJ
  try clear bV
  try clear jk
  obtain ⟨bI,bJ,bV,jk,-,-,-⟩:=X5.aF
  cases e4:nV t.a t.b l[k].pt
  case false =>
   have hy:=avE (show ru s t l[k]=false by rw [hx.out,e4];simp);clear e4;go_wp2;go_roundw
   case rel => exact ⟨k+1,by omega,by go_num,B2,all_succ (p:=fun x=>ru s t x=false) Hno.out hlt hy.out⟩
   case measure => simp [intOf];omega
  have hg:=avE (vO l (ru s t) k hlt (by rw [hx.out,H1.out,H2.out,H3.out,e4];rfl));clear e4;go_wp2;go_ret;exact ⟨aY (by rw [<- hf.out,hg.out]),bT HB.out B2⟩
def vX (s:Sg) (x:Nd):Bool:=(((s.i:Int) == 0) && (s.arc.fr == x.id)) || (((s.i:Int) == (s.n:Int)-1) && (s.arc.dst == x.id))
def vY (s:Sg) (x:Nd):Bool:=vX s x || !nV s.a s.b x.pt
def Bg (s:Sg):Bool:=!decide (s.a=s.b) && (s.arc.fr != s.arc.dst || decide (3<=(s.n:Int)))
def vZ (p:Pl) (s:Sg):Bool:=p.nodes.all (vY s) && Bg s
theorem Fz {α:Type} (l:List α) (q:α->Bool) (k:Nat) (hk:k<l.length) (h:q l[k]=false):l.all q=false:=List.all_eq_false.2 ⟨l[k],avF hk,by simp [h]⟩
theorem Nw {α:Type} (l:List α) (q:α->Bool) (h:∀ j (hj:j<l.length),q l[j]=true):l.all q=true:=awh.2 fun x hx=>by
 obtain ⟨i,hi,rfl⟩:=avI.1 hx;exact h i hi
theorem akp (v:Value) (p:Pl) (s:Sg) (A:Option Addr) (n c:Nat) (w:World) (h:bQ w v p) (hs1:s.i<=2097152) (hs2:s.n<=2097152) :
  Calls Tryz.prog 189 #[v,vW s (.slice A n c)] w fun e w'=>e=.returned (.bool (vZ p s))/\Below w.heap.size w w':=by
 have TO:∀ p q r:Pt,∀ W,Calls Tryz.prog 150 #[aK p,aK q,aK r] W _:=fun p q r W=>Za p q r W;unfold aK at TO;have HO:=avE TO;clear TO;obtain ⟨_,va,vf,al,rfl,-,⟨An,cn,rfl,hn1,hn2,hR⟩,-,-⟩:=h;unfold maxLen at hn2;have HR:=avE hR;clear hR;unfold vW;obtain ⟨q,hq⟩:∃ q,vZ p s=q:=⟨_,rfl⟩;rw [hq];unfold vZ at hq;generalize p.nodes=l at *;have Hq:=avE hq;clear hq;go_enter Tryz.func189,Tryz.ntmps189;go_wp2_with fail;obtain ⟨W0,hW0⟩:∃ W0:World,W0=(w.alloc (.cells #[.slice An l.length cn,va,vf] 26)).alloc (.cells #[.int .i64 s.arc.id,.int .i64 s.arc.fr,.int .i64 s.arc.dst,.slice A n c,.int .i64 s.arc.left,.int .i64 s.arc.right,.int .i64 s.i,.int .i64 s.n,.int .i64 s.a.x,.int .i64 s.a.y,.int .i64 s.b.x,.int .i64 s.b.y] 202):=⟨_,rfl⟩;have Bw:Below w.heap.size w W0:=by rw [hW0];exact bA (bA (bR w) _) _
 have X2:ah W0 w.heap.size 26 #[.slice An l.length cn,va,vf]:=by rw [hW0];exact (ah.made rfl _ _).alloc _
 have X3:ah W0 (w.heap.size+1) 202 #[.int .i64 s.arc.id,.int .i64 s.arc.fr,.int .i64 s.arc.dst,.slice A n c,.int .i64 s.arc.left,.int .i64 s.arc.right,.int .i64 s.i,.int .i64 s.n,.int .i64 s.a.x,.int .i64 s.a.y,.int .i64 s.b.x,.int .i64 s.b.y]:=by rw [hW0];exact ah.made ars _ _
 rw [<- hW0];have dh:=avE X2;have dW:=avE X3;have HB:=avE Bw;clear X2 X3 Bw hW0;go_loopw [5] (fun i wr=>∃ k:Nat,k<=l.length/\i=.int .i64 k/\Below W0.heap.size W0 wr/\∀ j (hj:j<l.length),j<k->vY s l[j]=true) (fun i _=>l.length-(intOf i).toNat)
 case atStart => exact ⟨0,avK _,rfl,bR W0,fun j _ h=>by omega⟩
 case round =>
  obtain ⟨k,hk,rfl,hb,hno⟩:=hrel;have Hb:=avE hb;have Hno:=avE hno;have X2:=dh.out.keep hb;have X3:=dW.out.keep hb;clear hb hno;obtain ⟨aG,aI,aJ,aO,-,-,-⟩:=X2.aF;obtain ⟨bH,bU,bY,fP,pq,pz,pF,AQ,AU,AV,AX,AY,bH,-,-,-,-,-,-,-,-,-,-,-,-⟩:=X3.xW;by_cases hlt:k<l.length
  case neg =>
   have hg:=avE (Nw l (vY s) (fun j hj=>Hno.out j hj Pe));have hf:=avE (show Bg s=q by rw [<- Hq.out,hg.out];rfl);have hE:=DX s.a s.b;by_cases h1:s.a=s.b
   ·have h1':decide (s.a=s.b)=true:=avW h1;have hz:=avE (show false=Bg s by rw [Bg,h1'];rfl);have H1:=avE h1;clear h1;go_wp2;go_ret;exact ⟨aY (hz.out.trans hf.out),bT HB.out Hb.out⟩
   ·have h1':decide (s.a=s.b)=false:=avV h1;have H1:=avE h1;clear h1
    cases h2:(s.arc.fr != s.arc.dst)
    ·have hz:=avE (show decide (3<=(s.n:Int))=Bg s by rw [Bg,h1',h2];rfl);go_wp2;go_ret;exact ⟨aY (hz.out.trans hf.out),bT HB.out Hb.out⟩
    ·have hz:=avE (show true=Bg s by rw [Bg,h1',h2];rfl);go_wp2;go_ret;exact ⟨aY (hz.out.trans hf.out),bT HB.out Hb.out⟩
  obtain ⟨b,o,rfl,hlb,c0,c1,c2⟩:=(HR.out.mono (bT HB.out Hb.out)).nd hlt;go_upto_region 5 with fail;obtain ⟨W1,hW1⟩:∃ W1:World,W1=wr.alloc (.cells #[.int .i64 l[k].id,.int .i64 l[k].pt.x,.int .i64 l[k].pt.y] 45):=⟨_,rfl⟩;have B1:Below W0.heap.size W0 W1:=by rw [hW1];exact bA Hb.out _
  have X6:ah W1 wr.heap.size 45 #[.int .i64 l[k].id,.int .i64 l[k].pt.x,.int .i64 l[k].pt.y]:=by rw [hW1];exact ah.made rfl _ _
  have hA1:Below wr.heap.size wr W1:=by rw [hW1];exact bA (bR wr) _
  replace X2:=X2.keep hA1;replace X3:=X3.keep hA1;rw [<- hW1];clear c0 c1 c2 hlb hW1 hA1
  try clear aG
  try clear aI
  try clear aJ
  try clear aO
  obtain ⟨aG,aI,aJ,aO,-,-,-⟩:=X2.aF
  try clear bH
  try clear bU
  try clear bY
  try clear fP
  try clear pq
  try clear pz
  try clear pF
  try clear AQ
  try clear AU
  try clear AV
  try clear AX
  try clear AY
  try clear bH
  obtain ⟨bH,bU,bY,fP,pq,pz,pF,AQ,AU,AV,AX,AY,bH,-,-,-,-,-,-,-,-,-,-,-,-⟩:=X3.xW;obtain ⟨fO,fQ,gK,xU,-,-,-⟩:=X6.aF;go_cut [7] (fun u wx=>u=.bool (vX s l[k])/\wx=W1)
  case first =>
   cases h1:((s.i:Int) == 0)
   case true =>
    cases h2:(s.arc.fr == l[k].id)
    case true =>
     have hz:=avE (show true=vX s l[k] by rw [vX,h1,h2];rfl);go_wp2;go_meet
     case rel => exact ⟨congrArg Value.bool hz.out,rfl⟩
    case false =>
     cases h3:((s.i:Int) == (s.n:Int)-1)
     case false =>
      have hz:=avE (show false=vX s l[k] by rw [vX,h1,h2,h3];rfl);go_wp2;go_meet
      case rel => exact ⟨congrArg Value.bool hz.out,rfl⟩
     case true =>
      have hz:=avE (show (s.arc.dst == l[k].id)=vX s l[k] by rw [vX,h1,h2,h3];rfl);go_wp2;go_meet
      case rel => exact ⟨congrArg Value.bool hz.out,rfl⟩
   case false =>
    cases h3:((s.i:Int) == (s.n:Int)-1)
    case false =>
     have hz:=avE (show false=vX s l[k] by rw [vX,h1,h3];rfl);go_wp2;go_meet
     case rel => exact ⟨congrArg Value.bool hz.out,rfl⟩
    case true =>
     have hz:=avE (show (s.arc.dst == l[k].id)=vX s l[k] by rw [vX,h1,h3];rfl);go_wp2;go_meet
     case rel => exact ⟨congrArg Value.bool hz.out,rfl⟩
  case rest =>
   obtain ⟨rfl,rfl⟩:=hcut
   cases e1:vX s l[k]
   case true =>
    have hy:=avE (show vY s l[k]=true by rw [vY,e1];rfl);clear e1;go_wp2;go_roundw
    case rel => exact ⟨k+1,by omega,by go_num,B1,all_succ (p:=fun x=>vY s x=true) Hno.out hlt hy.out⟩
    case measure => simp [intOf];omega
   case false =>
   have E1:=avE e1;clear e1;go_wp2_with fail;refine (HO.out s.a s.b l[k].pt _).mono ?_;rintro e w4 ⟨rfl,hb4⟩;have B4:=bT B1 hb4
   cases e3:nV s.a s.b l[k].pt
   case false =>
    have hy:=avE (show vY s l[k]=true by rw [vY,e3];simp);clear e3;go_wp2;go_roundw
    case rel => exact ⟨k+1,by omega,by go_num,B4,all_succ (p:=fun x=>vY s x=true) Hno.out hlt hy.out⟩
    case measure => simp [intOf];omega
   case true =>
    have hg:=avE (Fz l (vY s) k hlt (by rw [vY,E1.out,e3];rfl));clear e3;go_wp2;go_ret;exact ⟨aY (by rw [<- Hq.out,hg.out];rfl),bT HB.out B4⟩
section
variable {α β:Type} {w w':World} {base base':Nat} {e e':TypeId} {size size':Nat} {f:α->List Value} {f':β->List Value} {v v':Value} {l:List α} {l':List β}
theorem Own.grown (h:Own w base e size f v l) {row:Option Nat} (hg:w.grownBy w' row) (hne:∀ g,v.ownBlock=some g->some g≠row):Own w' base e size f v l:=by
 obtain ⟨h1,h2⟩:=h;refine ⟨h1,?_⟩;rcases h2 with h2 | ⟨g,cap,cur,hv,hg',hh,r⟩
 · exact .inl h2
 ·subst hv;refine .inr ⟨g,cap,cur,rfl,hg',?_,r⟩;exact ah.grown (t:=e) (cs:=cur) hh hg (hne g rfl)
theorem Own.blk (h:Own w base e size f v l) {g:Nat} (hg:v.ownBlock=some g):∃ cs,ah w g e cs:=by
 rcases h.2 with ⟨rfl,_⟩ | ⟨g',cap,cur,rfl,_,hh,_⟩
 · simp [Value.ownBlock] at hg
 ·have:g'=g:=by simpa [Value.ownBlock] using hg
  subst this;exact ⟨_,hh⟩
theorem Own.apart (h:Own w base e size f v l) (h':Own w base' e' size' f' v' l') (hne:e≠e'):∀ g,v.ownBlock=some g->some g≠v'.ownBlock:=by
 intro g hg hg';obtain ⟨cs,h1⟩:=h.blk hg;obtain ⟨cs',h2⟩:=h'.blk hg'.symm;exact ah.J3 h1 h2 hne rfl
end
def aA:Pt:=⟨0,0⟩
def nY (a:Ar) (l:List Pt):List Sg:=(List.range (l.length-1)).map fun k=>⟨a,k,l.length-1,l.getD k aA,l.getD (k+1) aA⟩
def Bh (p:Pl):List Sg:=p.aj.flatMap fun a=>nY a (au p a)
theorem P5 (a:Ar) (l:List Pt):(nY a l).length=l.length-1:=by simp [nY]
theorem akq (a:Ar) (l:List Pt) (k:Nat) (hk:k+1<l.length):(nY a l).take (k+1)=(nY a l).take k++[⟨a,k,l.length-1,l[k],l[k+1]⟩]:=by
 have h:k<(nY a l).length:=by rw [P5];omega
 rw [avH h];simp [nY,List.getD,avG hk,avG (show k<l.length by omega)]
theorem ig (p:Pl) (a:Ar):(au p a).length=a.via.length+2:=by simp [au]
theorem adN (p:Pl) (l:List Ar):(l.flatMap fun a=>nY a (au p a)).length=(l.flatMap (·.via)).length+l.length:=by
 induction l with
 | nil=>rfl
 | cons a l ih=>simp only [av5,avL,ih,P5,ig,avO];omega
def akr (w:World) (l:List Sg) (e:Ending) (w':World):Prop :=
 ∃ sl v,sl.map (·.1)=l/\e=.returned v/\Below w.heap.size w w'/\Own w' w.heap.size 202 12 Fh v sl
theorem aks:Elem Tryz.prog 198 202 12 112:=Elem.xK (z:=.agg #[.int .i64 0,.int .i64 0,.int .i64 0,.slice none 0 0,.int .i64 0,.int .i64 0,.int .i64 0,.int .i64 0,.int .i64 0,.int .i64 0,.int .i64 0,.int .i64 0]) atF atF rfl Pe
theorem akt (s:Sg×SV):(Fh s).length=12:=rfl
theorem aku (s:Sg×SV):∀ u∈Fh s,u.oneCell'=true:=by simp [Fh,Value.oneCell']
theorem Sl.akv {w:World} {g:Nat} {t:TypeId} {s:Sg} {u:SV} {n:Int} (hn:n=s.n) (h:ah w g t #[.int .i64 s.arc.id,.int .i64 s.arc.fr,.int .i64 s.arc.dst,.slice u.a u.n u.c,.int .i64 s.arc.left,.int .i64 s.arc.right,.int .i64 s.i,.int .i64 n,.int .i64 s.a.x,.int .i64 s.a.y,.int .i64 s.b.x,.int .i64 s.b.y]) :
  Sl w (.slice (some ⟨g,0,none⟩) 1 1) ([(s,u)] : List (Sg×SV)).length (([(s,u)] : List (Sg×SV)).flatMap Fh):=by
 subst hn;exact Sl.lit (n:=1) h rfl (dP Pe)
theorem akw (v:Value) (p:Pl) (w:World) (h:bQ w v p) (hl1:p.aj.length<=4096) (hl2:(p.aj.flatMap (·.via)).length<=1048576) :
  Calls Tryz.prog 188 #[v] w (akr w (Bh p)):=by
 have HP:=avE h;obtain ⟨vn,_,vf,al,rfl,hpa,-,⟨⟨Aa,ca,rfl,ha1,ha2,gV⟩,hV⟩,-⟩:=h;unfold maxLen at ha2;have hS:Bh p=al.flatMap fun a=>nY a.1 (au p a.1):=by unfold Bh;rw [hpa,List.flatMap_map]
 have hL:∀ k,((al.take k).flatMap fun a=>nY a.1 (au p a.1)).length<=1052672:=fun k=>by
  have h1:=PN al (fun a=>nY a.1 (au p a.1)) k;rw [<- hS] at h1;unfold Bh at h1;rw [adN] at h1;omega
 have hsh:∀ k (hk:k<al.length),al[k].1.via.length<=1048576:=fun k hk=>by
  have h1:=Zj al (fun a=>a.1.via) k hk;rw [hpa,List.flatMap_map] at hl2;omega
 have hl:al.length<=4096:=by rw [hpa,avM] at hl1;exact hl1
 rw [hS];have HL:=avE hL;have iL:=avE hsh;have HV:=avE hV;clear hV;have jr:=avE gV;clear gV;clear hS hpa hl1 hl2 hL hsh;go_enter Tryz.func188,Tryz.ntmps188;go_wp2_with fail;obtain ⟨W0,hW0⟩:∃ W0:World,W0=w.alloc (.cells #[vn,.slice Aa al.length ca,vf] 26):=⟨_,rfl⟩;have X1:ah W0 w.heap.size 26 #[vn,.slice Aa al.length ca,vf]:=by rw [hW0];exact ah.made rfl _ _
 have iq:Below w.heap.size w W0:=by rw [hW0];exact bA (bR w) _
 have HX0:=avE X1;have hwz:=X1.lt;rw [<- hW0];clear hW0 X1;go_loopw [3,4] (fun s i wr=>∃ (k:Nat) (sl:List (Sg×SV)),k<=al.length/\i=.int .i64 k/\sl.map (·.1)=((al.take k).flatMap fun a=>nY a.1 (au p a.1))/\Own wr W0.heap.size 202 12 Fh s sl/\Below W0.heap.size W0 wr) (fun _ i _=>al.length-(intOf i).toNat)
 case atStart => exact ⟨0,[],avK _,rfl,rfl,Own.nil _ _ _ _ _,bR W0⟩
 case round =>
  obtain ⟨k,sl,hk,rfl,hsl,hown,hb⟩:=hrel;have Hb:=avE hb;have gU:=avE hown;have zu:=avE hsl;have X1:=HX0.out.keep hb;have hsz:=hb.size;clear hb hown hsl;obtain ⟨aS,aT,aU,aW,-,-,-⟩:=X1.aF;by_cases hlt:k<al.length
  case neg =>
   have hE:al.take k=al:=List.take_of_length_le Pe;have Hf:=avE (show sl.map (·.1)=al.flatMap fun a=>nY a.1 (au p a.1) by rw [zu.out,hE]);clear hE;go_wp2;go_ret;exact ⟨sl,_,Hf.out,rfl,bT iq Hb.out,gU.out.fG iq.size⟩
  obtain ⟨b,o,rfl,hlb,c0,c1,c2,c3,c4,c5⟩:=(jr.out.mono (bT iq Hb.out)).ar hlt;have hvk:=(HV.out k hlt);obtain ⟨Av,cv,hv,-⟩:=hvk;have hvk:=(HV.out k hlt);rw [hv] at c3 hvk;generalize hvl:al[k].1.via.length=vl at c3;have Pz:=avE hvl;have vN:=avE hvk;have adO:=avE (iL.out k hlt);have q1:0<=(k:Int):=by omega
  have q2:(k:Int)<al.length:=by omega
  have Hlk:=avE (HL.out (k+1));clear hvk hv hvl;have TL:∀ W,Below w.heap.size w W->Calls Tryz.prog 128 #[.agg #[vn,.slice (some ⟨b,o,none⟩) al.length ca,vf],.agg #[.int .i64 al[k].1.id,.int .i64 al[k].1.fr,.int .i64 al[k].1.dst,.slice Av vl cv,.int .i64 al[k].1.left,.int .i64 al[k].1.right]] W (Zr W (au p al[k].1) (jD p al[k].1)):=fun W hW=>by
   have:=Zt _ _ p al[k].1 _ (HP.out.mono hW) (vN.out.mono hW) adO.out
   rw [Pz.out] at this;exact this
  have HT:=avE TL;clear TL;go_upto_region 5 with fail;go_cut [5] (fun s wx=>∃ A1 n1 c1,s=.slice A1 n1 c1/\n1=(au p al[k].1).length/\Own wx wr.heap.size 39 2 dU (.slice A1 n1 c1) (au p al[k].1)/\Below wr.heap.size wr wx)
  case first =>
   refine dH (wr) (.run 6 0 0 (.call 6 127 (.run 5 7 127 (.done)))) fun bZ QR aB aH hS=>?_
   iterate 6 refine aC ?_
   refine bK ?_;clear hS;intro K hK ak;go_simp;refine (HT.out _ (bT (bT iq Hb.out) ak.out)).mono ?_;rintro e cZ ⟨v1,rfl,bW,ho1⟩;have hS:Since wr cZ:=bT (w:=wr) ak.out bW;clear ak;refine hK.out _ _ hS (fun _=>?_);clear hK K
   try simp only [pu]
   iterate 5 refine aC ?_
   refine dB ?_;clear hS aH aB;intro hB;obtain ⟨A1,c1',rfl,-⟩:=Own.sl ho1;go_wp2;go_meet
   case rel => exact ⟨A1,_,c1',rfl,rfl,ho1.fG ars,hB⟩
  case rest =>
   obtain ⟨A1,n1,c1',rfl,rfl,adP,hBc⟩:=hcut;have hown1:Own wc W0.heap.size 202 12 Fh _ sl:=gU.out.keep hBc;have Bc:=bT Hb.out hBc;have aub:=hBc.size;have hmx:(au p al[k].1).length<=maxLen:=by rw [ig];have:=adO.out;exact dP Pe
   unfold maxLen at hmx;have hpl2:2<=(au p al[k].1).length:=by rw [ig];omega
   generalize PU:au p al[k].1=PP at *;have PV:=avE PU;obtain ⟨M,hM⟩:∃ M,PP.length=M+1:=⟨PP.length-1,by omega⟩;have HM:=avE hM;have hM1:M<PP.length:=by omega
   have Hp0:=avE adP;have Hs0:=avE hown1;have HBc:=avE Bc;clear adP hown1 Bc hBc PU hM HT X1 aS aT aU aW c0 c1 c2 c3 c4 c5;obtain ⟨wo,rfl⟩:∃ wo:World,wo=wr:=⟨_,rfl⟩;go_wp2_with fail;go_loopw [3,7] (fun s i wx=>∃ (j:Nat) (sx:List (Sg×SV)),j+1<=PP.length/\i=.int .i64 j/\sx.map (·.1)=((al.take k).flatMap fun a=>nY a.1 (au p a.1))++(nY al[k].1 PP).take j/\Own wx W0.heap.size 202 12 Fh s sx/\Own wx wo.heap.size 39 2 dU (.slice A1 PP.length c1') PP/\Below W0.heap.size W0 wx) (fun _ i _=>PP.length-(intOf i).toNat)
   case atStart => exact ⟨0,sl,by omega,rfl,by rw [zu.out];simp,Hs0.out,Hp0.out,HBc.out⟩
   case round =>
    obtain ⟨j,sx,hj,rfl,hsx,P6,hpx,hbx⟩:=hrel;have iR:=avE hbx;have D9:=avE P6;have UO:=avE hpx;have Ku:=avE hsx;have ZE:=hbx.size;have X1:=HX0.out.keep hbx;clear hbx P6 hpx hsx
    try clear aS
    try clear aT
    try clear aU
    try clear aW
    obtain ⟨aS,aT,aU,aW,-,-,-⟩:=X1.aF;by_cases hlj:j+1<PP.length
    case neg =>
     have hjm:j=M:=by have:=HM.out;omega
     have Hf:=avE (show sx.map (·.1)=((al.take (k+1)).flatMap fun a=>nY a.1 (au p a.1)) by
      rw [Ku.out,avH hlt,List.flatMap_append,List.take_of_length_le (l:=nY al[k].1 PP) (by rw [P5];omega)];simp [PV.out])
     clear hjm;go_wp2;go_roundw
     case rel => exact ⟨k+1,sx,by omega,by go_num,Hf.out,D9.out,iR.out⟩
     case measure => simp [intOf];omega
    obtain ⟨b',o',jK,yZ,d0,d1,d2,d3,d4,d5⟩:=(jr.out.mono (bT iq iR.out)).ar hlt;simp only [Option.some.injEq,Addr.mk.injEq,and_true] at jK;obtain ⟨rfl,rfl⟩:=jK;have hvk:=(HV.out k hlt);obtain ⟨Av',cv',hv,-⟩:=hvk;have hrow:=Own.sl UO.out;obtain ⟨A1',akx,he1,-,-,hrow⟩:=hrow;injection he1 with he1 _ he3;subst he1;subst he3;obtain ⟨pb,po,ZF,hlp,f0,f1⟩:=hrow.pt (k:=j) Pe;subst ZF;obtain ⟨pb',po',P7,adQ,f2,f3⟩:=hrow.pt (k:=j+1) hlj;simp only [Option.some.injEq,Addr.mk.injEq,and_true] at P7;obtain ⟨rfl,rfl⟩:=P7;rw [hv] at d3;have Hvv:=avE hv;clear hrow hv;have Ny:IntKind.i64.wrap ((j:Int)+1)=(j:Int)+1:=avS _ Pe;have w2e:IntKind.i64.wrap ((PP.length:Int)-1)=(M:Int):=by have:=HM.out;rw [avS _ Pe];omega
    have r1:0<=(j:Int):=by omega
    have r2:(j:Int)<PP.length:=by omega
    have r3:0<=(j:Int)+1:=by omega
    have r4:(j:Int)+1<PP.length:=by omega
    have r5:((j:Int)+1).toNat=j+1:=by omega
    have r6:0<=(k:Int):=by omega
    have r7:(k:Int)<al.length:=by omega
    have hb0:b<w.heap.size:=by
     obtain ⟨b2,o2,e2,h2,-⟩:=jr.out.ar hlt;simp only [Option.some.injEq,Addr.mk.injEq,and_true] at e2;omega
    have n1:some w.heap.size≠(u3:Value).ownBlock:=fun e=>by have:=(D9.out.lt _ e.symm).1;omega
    have n2:some b≠(u3:Value).ownBlock:=fun e=>by have:=(D9.out.lt _ e.symm).1;omega
    have n3:some pb≠(u3:Value).ownBlock:=Own.apart UO.out D9.out arC pb rfl;have Hb0:=avE hb0;have adR:=avE (show sx.length+1<=1052673 by
     have h1:=Hlk;have h2:=congrArg List.length Ku.out;rw [avM,avL,awk,P5] at h2;have h3:=HL.out (k+1);rw [avH hlt,List.flatMap_append,avL] at h3;simp only [av5,List.flatMap_nil,List.append_nil,P5,PV.out] at h3;omega)
    clear hb0;go_upto_region 9 with fail;refine YS (wr) ((u3:Value).ownBlock) (.run 20 0 0 (.call 20 2097151 (.call 21 4194303 (.take 22 8388607 (.done))))) fun bZ QR aB aH hS=>?_
    iterate 20 refine aC ?_
    refine bK ?_;clear hS;intro K hK ak;go_simp;refine hK.out _ _ (gA ak.out _) (fun hS=>?_);clear hK K ak
    try simp only [pu]
    refine bK ?_;clear hS;intro K hK ak;refine kW (.tmp 32) (.tmp 52) _ rfl (base:=W0.heap.size) aks akt aku rfl ((D9.out.drew).alloc _) rfl (l2:=[((⟨al[k].1,j,PP.length-1,PP[j],PP[j+1]⟩:Sg),(⟨Av',al[k].1.via.length,cv'⟩:SV))]) (Sl.akv (n:=(M:Int)) (by have:=HM.out;simp only [];omega) (ah.made ars _ _)) (by have:=adR.out;simp only [avO,avN];omega) (by have:=adR.out;simp only [avO,avN];omega) arV ?_;intro v3 wr3 ho3 hg hat;have hS:Ae wr (u3:Value).ownBlock wr3:=gT ak.out hg;clear ak;refine hK.out _ _ hS (fun _=>?_);clear hK K
    try simp only [pu]
    refine aC ?_;refine YT ?_;clear hS aH aB;intro hB;have P8:=avE ho3;have Hpy:=avE (UO.out.grown hB (fun g hg=>Own.apart UO.out D9.out arC g hg));have Hby:=avE (ajt iR.out ZE hB (fun g hg=>(D9.out.lt g hg).1));have Hsy:=avE (show (sx++[((⟨al[k].1,j,PP.length-1,PP[j],PP[j+1]⟩:Sg),(⟨Av',al[k].1.via.length,cv'⟩:SV))]).map (·.1)=((al.take k).flatMap fun a=>nY a.1 (au p a.1))++(nY al[k].1 PP).take (j+1) by
     rw [List.map_append,Ku.out,akq _ _ _ hlj,awm];rfl)
    clear ho3 hg hat hB d0 d1 d2 d3 d4 d5 f0 f1 f2 f3 Ny w2e r1 r2 r3 r4 r5 r6 r7 n1 n2 n3 X1 aS aT aU aW;go_wp2;go_roundw
    case rel => exact ⟨j+1,sx++[((⟨al[k].1,j,PP.length-1,PP[j],PP[j+1]⟩:Sg),(⟨Av',al[k].1.via.length,cv'⟩:SV))],by omega,by go_num,Hsy.out,P8.out,Hpy.out,Hby.out⟩
    case measure => simp [intOf];omega
end Go.Proofs.YtialfdomhoojiaaGreat
