import Derived.Test.YtnhdmghgjngcaaaGreatGB
import Derived.Test.YtnhdmghgjngcaaaGreatJ03
import Derived.Test.YtnhdmghgjngcaaaGreatJ01
import Derived.Lib.AppendZerosOnto
set_option linter.unusedSimpArgs false
set_option linter.unusedVariables false
namespace Go.Proofs.YtnhdmghgjngcaaaGreat
open Go.RowKit

theorem bAB {B:Nat} {W w:World} (hB:B≤W.heap.size) (h:Below B W w) (o:Obj):Below B W (w.alloc o):=h.alloc (Nat.le_trans hB h.size) o
theorem bSB {B b i:Nat} {W w:World} (h:Below B W w) (hb:B≤b) (u:Value):Below B W (w.setCell ⟨b,i,none⟩ u):=h.setCell (p:=⟨b,i,none⟩) hb u
end Go.Proofs.YtnhdmghgjngcaaaGreat
namespace Go.Proofs.YtnhdmghgjngcaaaGreat
open Go.RowKit

def arS (x:Ar×SV):List Value:=[.int .i64 x.1.id,.int .i64 x.1.fr,.int .i64 x.1.dst,.slice x.2.a x.2.n x.2.c,.int .i64 x.1.left,.int .i64 x.1.right]
theorem arS_len (x:Ar×SV):(arS x).length=6:=rfl
theorem arS_one (x:Ar×SV):∀ u∈arS x,u.oneCell'=true:=by simp [arS,Value.oneCell']
def svA (x:Ar×SV):Ar×Value:=(x.1,.slice x.2.a x.2.n x.2.c)
def svOf:Value→SV
 | .slice a n c=>⟨a,n,c⟩
 | _=>⟨none,0,0⟩
theorem arS_flat (l:List (Ar×SV)):(l.map svA).flatMap arC=l.flatMap arS:=by rw [List.flatMap_map];rfl
theorem Vias.sv {w:World} {al:List (Ar×Value)} (h:Vias w al):∃ bl:List (Ar×SV),al=bl.map svA:=by
 refine ⟨al.map fun x=>(x.1,svOf x.2),?_⟩
 rw [List.map_map]
 have:∀ x∈al,(svA ∘ fun x:Ar×Value=>(x.1,svOf x.2)) x=x:=fun x hx=>by
  obtain ⟨k,hk,rfl⟩:=List.mem_iff_getElem.1 hx
  obtain ⟨A,c,hv,-⟩:=h k hk
  show (al[k].1,Value.slice (svOf al[k].2).a (svOf al[k].2).n (svOf al[k].2).c)=al[k]
  rw [Prod.ext_iff]
  exact ⟨rfl,by rw [hv];rfl⟩
 exact (List.map_id al).symm.trans (List.map_congr_left fun x hx=>(this x hx).symm)
theorem flat_set {α:Type} (f:α→List Value) (n:Nat) (hn:∀ a,(f a).length=n) (l:List α) (i:Nat) (hi:i<l.length) (y:α) (m:Nat) (hm:m<l.length*n) :
  ((l.set i y).flatMap f)[m]? = if m / n=i then (f y)[m % n]? else (l.flatMap f)[m]? := by
 have hn0:0<n:=by
  rcases Nat.eq_zero_or_pos n with h0 | h0
  · subst h0;omega
  · exact h0
 have h1:m / n<l.length:=Nat.div_lt_of_lt_mul (by rw [Nat.mul_comm];exact hm)
 have h2:m % n<n:=Nat.mod_lt _ hn0
 have e1:=flat_get f n hn (l.set i y) (m / n) (m % n) (by simpa using h1) h2
 have e2:=flat_get f n hn l (m / n) (m % n) h1 h2
 rw [Nat.div_add_mod'] at e1 e2
 rw [e1,e2,List.getElem_set]
 by_cases e:i=m / n
 · rw [if_pos e,if_pos e.symm]
 · rw [if_neg e,if_neg (fun h=>e h.symm)]
end Go.Proofs.YtnhdmghgjngcaaaGreat
namespace Go.Proofs.YtnhdmghgjngcaaaGreat
open Go.RowKit

theorem Own.put_cell {α:Type} {w:World} {base g n c i j:Nat} {e:TypeId} {size:Nat} {f:α→List Value} (hf:∀ a,(f a).length=size) {l:List α} (h:Own w base e size f (.slice (some ⟨g,0,none⟩) n c) l) (hi:i<l.length) (hj:j<size) (y:α) (u:Value) (hy:f y=(f l[i]).set j u) :
  Own (w.setCell ⟨g,i*size+j,none⟩ u) base e size f (.slice (some ⟨g,0,none⟩) n c) (l.set i y):=by
 obtain ⟨h1,h2⟩:=h
 rcases h2 with ⟨hv,h0⟩ | ⟨g',cap,cur,hv,hg,hh,hnc,hcm,hcs,hx⟩
 · cases hv
 ·
  injection hv with e1 e2 e3
  injection e1 with e1
  injection e1 with e1 _ _
  subst e1 e3
  have hl:(l.set i y).length=l.length:=by simp
  have hs0:0<size:=by omega
  refine ⟨by rw [flat_length f size hf],.inr ⟨g,c,_,by rw [hl,e2],hg,Blk.set_ hh (i*size+j) u,by rw [hl];exact hnc,hcm,by simpa using hcs,?_⟩⟩
  apply List.ext_getElem?
  intro m
  rw [List.getElem?_take,hl]
  by_cases hm:m<l.length*size
  ·
   rw [if_pos hm,flat_set f size hf l i hi y m hm]
   have hcur:(l.flatMap f)[m]? = cur[m]? := by
    rw [← hx,List.getElem?_take,if_pos hm];simp
   have hmc:m<cur.size:=by rw [hcs];have:=Nat.mul_le_mul_right size hnc;omega
   have hdm:=Nat.div_add_mod m size
   have hml:=Nat.mod_lt m hs0
   rw [hcur]
   simp only [Array.getElem?_toList,Array.getElem?_setIfInBounds,Array.size_setIfInBounds]
   by_cases hmi:m / size=i
   ·
    rw [if_pos hmi,hy,List.getElem?_set]
    have hm2:m=i*size+m % size:=by rw [← hmi,Nat.mul_comm];omega
    by_cases hmj:j=m % size
    ·
     rw [if_pos hmj,if_pos (show j<(f l[i]).length by rw [hf];exact hj),if_pos (show i*size+j=m by omega)]
     first | rw [if_pos hmc] | rw [if_pos (show i*size+j<cur.size by omega)]
    ·
     rw [if_neg hmj,if_neg (by omega)]
     have e2:=flat_get f size hf l i (m % size) hi hml
     rw [← hm2] at e2
     rw [← e2,hcur]
   · rw [if_neg hmi,if_neg (fun e=>hmi (by rw [← e,Nat.mul_comm,Nat.mul_add_div hs0,Nat.div_eq_of_lt hj];rfl))]
  · rw [if_neg hm,List.getElem?_eq_none (by rw [flat_length f size hf,hl];omega)]
end Go.Proofs.YtnhdmghgjngcaaaGreat
namespace Go.Proofs.YtnhdmghgjngcaaaGreat
open Go.RowKit

def lowS (o p:Pt):Bool:=decide (p.y<o.y) || (decide (p.y=o.y) && decide (p.x<o.x))
def lessS (o a b:Pt):Bool:=nears [o,a,b] && (!decide (a=o) && (!decide (b=o) && (if lowS o a=lowS o b then decide (0<tw o a b) else lowS o b)))
def lowV (x y:Int):Prop:=y<0∨(y=0∧x<0)
def ltV (ux uy vx vy:Int):Prop:=(¬ lowV ux uy∧lowV vx vy)∨((lowV ux uy↔lowV vx vy)∧0<ux*vy-uy*vx)
theorem ltV_irr (ux uy:Int):¬ ltV ux uy ux uy:=by
 rintro (⟨h1,h2⟩ | ⟨-,h⟩)
 · exact h1 h2
 · rw [Int.mul_comm uy ux] at h;omega
theorem three (ux uy vx vy wx wy:Int):vy*(ux*wy-uy*wx)=uy*(vx*wy-vy*wx)+wy*(ux*vy-uy*vx):=by grind
theorem pos_of_mul {v A:Int} (hv:0<v) (h:0<v*A):0<A:=by
 rcases Int.lt_or_le 0 A with h1 | h1
 · exact h1
 · have:=Int.mul_nonpos_of_nonneg_of_nonpos (Int.le_of_lt hv) h1;omega
theorem nn_of_mul {v A:Int} (hv:0<v) (h:0≤v*A):0≤A:=by
 rcases Int.lt_or_le A 0 with h1 | h1
 · have:=Int.mul_neg_of_pos_of_neg hv h1;omega
 · exact h1
def upV (x y:Int):Prop:=0<y∨(y=0∧0<x)
theorem cross_up {ux uy vx vy wx wy:Int} (hu:upV ux uy) (hv:upV vx vy) (hw:upV wx wy) (h1:0≤ux*vy-uy*vx) (h2:0≤vx*wy-vy*wx) :
  0≤ux*wy-uy*wx∧(0<ux*vy-uy*vx∨0<vx*wy-vy*wx→0<ux*wy-uy*wx):=by
 have e:=three ux uy vx vy wx wy
 unfold upV at *
 rcases hv with hv | ⟨rfl,hv⟩
 ·
  have hw':0<wy:=by
   rcases hw with hw | ⟨rfl,hw⟩
   · exact hw
   ·
    have:=Int.mul_pos hv hw
    rw [Int.mul_zero] at h2;omega
  have a1:0≤uy*(vx*wy-vy*wx):=Int.mul_nonneg (by omega) h2
  have a2:0≤wy*(ux*vy-uy*vx):=Int.mul_nonneg (by omega) h1
  refine ⟨nn_of_mul hv (by omega),fun h=>pos_of_mul hv ?_⟩
  rcases h with h | h
  · have:=Int.mul_pos hw' h;omega
  ·
   rcases hu with hu | ⟨rfl,hu⟩
   · have:=Int.mul_pos hu h;omega
   ·
    have h3:=Int.mul_pos hu hv
    have:=Int.mul_pos hw' (show 0<ux*vy-0*vx by rw [Int.zero_mul];omega)
    omega
 ·
  have hu':uy=0:=by
   rcases hu with hu | ⟨hu,-⟩
   ·
    have:=Int.mul_pos hu hv
    rw [Int.mul_zero] at h1;omega
   · exact hu
  subst hu'
  have hu2:0<ux:=by omega
  rw [Int.zero_mul] at h2 ⊢
  rw [Int.zero_mul,Int.mul_zero]
  have hwy:0≤wy:=by omega
  have a1:=Int.mul_nonneg (Int.le_of_lt hu2) hwy
  refine ⟨by omega,fun h=>?_⟩
  rcases h with h | h
  · omega
  ·
   have:0<wy:=pos_of_mul hv (by omega)
   have:=Int.mul_pos hu2 this
   omega
theorem low_up {x y:Int} (h0:¬ (x=0∧y=0)):¬ lowV x y↔upV x y:=by
 unfold lowV upV;omega
theorem low_neg {x y:Int}:lowV x y↔upV (-x) (-y):=by
 unfold lowV upV;omega
theorem cross_half {ux uy vx vy wx wy:Int} (hu:¬ (ux=0∧uy=0)) (hv:¬ (vx=0∧vy=0)) (hw:¬ (wx=0∧wy=0)) (huv:lowV ux uy↔lowV vx vy) (hvw:lowV vx vy↔lowV wx wy) (h1:0≤ux*vy-uy*vx) (h2:0≤vx*wy-vy*wx) :
  0≤ux*wy-uy*wx∧(0<ux*vy-uy*vx∨0<vx*wy-vy*wx→0<ux*wy-uy*wx):=by
 by_cases hl:lowV vx vy
 ·
  have:=cross_up (low_neg.1 (huv.2 hl)) (low_neg.1 hl) (low_neg.1 (hvw.1 hl))
  simp only [Int.neg_mul_neg] at this
  exact this h1 h2
 · exact cross_up ((low_up hu).1 (fun h=>hl (huv.1 h))) ((low_up hv).1 hl) ((low_up hw).1 (fun h=>hl (hvw.2 h))) h1 h2
theorem ltV_trans {ux uy vx vy wx wy:Int} (hu:¬ (ux=0∧uy=0)) (hv:¬ (vx=0∧vy=0)) (hw:¬ (wx=0∧wy=0)) (h1:ltV ux uy vx vy) (h2:ltV vx vy wx wy):ltV ux uy wx wy:=by
 unfold ltV at *
 rcases h1 with ⟨a1,a2⟩ | ⟨a1,a2⟩
 ·
  rcases h2 with ⟨b1,b2⟩ | ⟨b1,b2⟩
  · exact absurd a2 b1
  · exact .inl ⟨a1,b1.1 a2⟩
 ·
  rcases h2 with ⟨b1,b2⟩ | ⟨b1,b2⟩
  · exact .inl ⟨fun h=>b1 (a1.1 h),b2⟩
  · exact .inr ⟨a1.trans b1,(cross_half hu hv hw a1 b1 (by omega) (by omega)).2 (.inl a2)⟩
theorem ltV_ntrans {ux uy vx vy wx wy:Int} (hu:¬ (ux=0∧uy=0)) (hv:¬ (vx=0∧vy=0)) (hw:¬ (wx=0∧wy=0)) (h1:¬ ltV ux uy vx vy) (h2:¬ ltV vx vy wx wy):¬ ltV ux uy wx wy:=by
 have key:∀ {ax ay bx b:Int},¬ ltV ax ay bx b→(lowV ax ay∧¬ lowV bx b)∨((lowV bx b↔lowV ax ay)∧0≤bx*ay-b*ax):=by
  intro ax ay bx b h
  unfold ltV at h
  by_cases l1:lowV ax ay
  ·
   by_cases l2:lowV bx b
   ·
    refine .inr ⟨by simp [l1,l2],?_⟩
    rw [Int.mul_comm bx,Int.mul_comm b]
    rcases Int.lt_or_le (ay*bx-ax*b) 0 with h3 | h3
    · exact absurd (.inr ⟨by simp [l1,l2],by omega⟩) h
    · exact h3
   · exact .inl ⟨l1,l2⟩
  ·
   by_cases l2:lowV bx b
   · exact absurd (.inl ⟨l1,l2⟩) h
   ·
    refine .inr ⟨by simp [l1,l2],?_⟩
    rw [Int.mul_comm bx,Int.mul_comm b]
    rcases Int.lt_or_le (ay*bx-ax*b) 0 with h3 | h3
    · exact absurd (.inr ⟨by simp [l1,l2],by omega⟩) h
    · exact h3
 intro h3
 rcases key h1 with ⟨a1,a2⟩ | ⟨a1,a2⟩
 ·
  rcases key h2 with ⟨b1,b2⟩ | ⟨b1,b2⟩
  · exact a2 b1
  ·
   rcases h3 with ⟨c1,c2⟩ | ⟨c1,c2⟩
   · exact c1 a1
   · exact a2 (b1.1 (c1.1 a1))
 ·
  rcases key h2 with ⟨b1,b2⟩ | ⟨b1,b2⟩
  ·
   rcases h3 with ⟨c1,c2⟩ | ⟨c1,c2⟩
   · exact c1 (a1.1 b1)
   · exact b2 (c1.1 (a1.1 b1))
  ·
   rcases h3 with ⟨c1,c2⟩ | ⟨c1,c2⟩
   · exact c1 (a1.1 (b1.1 c2))
   ·
    have:=(cross_half hw hv hu b1 a1 b2 a2).1
    rw [Int.mul_comm wx,Int.mul_comm wy] at this
    omega
theorem low_iff (o p:Pt):lowS o p=true↔lowV (p.x-o.x) (p.y-o.y):=by
 unfold lowS lowV
 simp only [Bool.or_eq_true,Bool.and_eq_true,decide_eq_true_eq]
 omega
theorem ne_vec {a o:Pt}:a≠o↔¬ (a.x-o.x=0∧a.y-o.y=0):=by
 rw [Ne,Pt.ext_iff'];omega
def dirLt (o a b:Pt):Prop:=ltV (a.x-o.x) (a.y-o.y) (b.x-o.x) (b.y-o.y)
theorem less_iff (o a b:Pt):lessS o a b=true↔nears [o,a,b]=true∧a≠o∧b≠o∧dirLt o a b:=by
 unfold lessS
 simp only [Bool.and_eq_true,Bool.not_eq_true',decide_eq_false_iff_not]
 refine and_congr_right fun _=>and_congr_right fun _=>and_congr_right fun _=>?_
 unfold dirLt ltV
 rw [← low_iff,← low_iff]
 show _↔_∨(_∧0<tw o a b)
 cases lowS o a<;>cases lowS o b<;>simp
end Go.Proofs.YtnhdmghgjngcaaaGreat
namespace Go.Proofs.YtnhdmghgjngcaaaGreat
open Go.RowKit

def meetAt (s t:Sg) (x:Nd):Bool:=endsS s.arc x.id && endsS t.arc x.id && ronS s.a s.b x.pt && ronS t.a t.b x.pt
def joinedS (p:Pl) (s t:Sg):Bool:=if rmeetS s.a s.b t.a t.b=1 then p.nodes.any (meetAt s t) else rmeetS s.a s.b t.a t.b == 0

end Go.Proofs.YtnhdmghgjngcaaaGreat
namespace Go.Proofs.YtnhdmghgjngcaaaGreat
open Go.RowKit

def isEnd (s:Sg) (x:Nd):Bool:=(((s.i:Int) == 0) && (s.arc.fr == x.id)) || (((s.i:Int) == (s.n:Int)-1) && (s.arc.dst == x.id))
def offNd (s:Sg) (x:Nd):Bool:=isEnd s x || !ronS s.a s.b x.pt
def soundS (s:Sg):Bool:=!decide (s.a=s.b) && (s.arc.fr != s.arc.dst || decide (3≤(s.n:Int)))
def aloneS (p:Pl) (s:Sg):Bool:=p.nodes.all (offNd s) && soundS s
theorem all_hit {α:Type} (l:List α) (q:α→Bool) (k:Nat) (hk:k<l.length) (h:q l[k]=false):l.all q=false:=List.all_eq_false.2 ⟨l[k],List.getElem_mem hk,by simp [h]⟩
theorem all_miss {α:Type} (l:List α) (q:α→Bool) (h:∀ j (hj:j<l.length),q l[j]=true):l.all q=true:=List.all_eq_true.2 fun x hx=>by
 obtain ⟨i,hi,rfl⟩:=List.mem_iff_getElem.1 hx
 exact h i hi

end Go.Proofs.YtnhdmghgjngcaaaGreat
namespace Go.Proofs.YtnhdmghgjngcaaaGreat
open Go.RowKit

section
variable {α β:Type} {w w':World} {base base':Nat} {e e':TypeId} {size size':Nat} {f:α→List Value} {f':β→List Value} {v v':Value} {l:List α} {l':List β}
theorem Own.grown (h:Own w base e size f v l) {row:Option Nat} (hg:w.grownBy w' row) (hne:∀ g,v.ownBlock=some g→some g≠row):Own w' base e size f v l:=by
 obtain ⟨h1,h2⟩:=h
 refine ⟨h1,?_⟩
 rcases h2 with h2 | ⟨g,cap,cur,hv,hg',hh,r⟩
 · exact .inl h2
 ·
  subst hv
  refine .inr ⟨g,cap,cur,rfl,hg',?_,r⟩
  exact Blk.grown (t:=e) (cs:=cur) hh hg (hne g rfl)
theorem Own.blk (h:Own w base e size f v l) {g:Nat} (hg:v.ownBlock=some g):∃ cs,Blk w g e cs:=by
 rcases h.2 with ⟨rfl,_⟩ | ⟨g',cap,cur,rfl,_,hh,_⟩
 · simp [Value.ownBlock] at hg
 ·
  have:g'=g:=by simpa [Value.ownBlock] using hg
  subst this
  exact ⟨_,hh⟩
theorem Own.apart (h:Own w base e size f v l) (h':Own w base' e' size' f' v' l') (hne:e≠e'):∀ g,v.ownBlock=some g→some g≠v'.ownBlock:=by
 intro g hg hg'
 obtain ⟨cs,h1⟩:=h.blk hg
 obtain ⟨cs',h2⟩:=h'.blk hg'.symm
 exact Blk.ne_ h1 h2 hne rfl
end

def pt0:Pt:=⟨0,0⟩
def segsOf (a:Ar) (l:List Pt):List Sg:=(List.range (l.length-1)).map fun k=>⟨a,k,l.length-1,l.getD k pt0,l.getD (k+1) pt0⟩
def segsS (p:Pl):List Sg:=p.arcs.flatMap fun a=>segsOf a (pathS p a)
theorem pathS_length (p:Pl) (a:Ar):(pathS p a).length=a.via.length+2:=by simp [pathS]
end Go.Proofs.YtnhdmghgjngcaaaGreat
namespace Go.Proofs.YtnhdmghgjngcaaaGreat
open Go.RowKit

def triB {α:Type} (l:List α) (f:α→Bool) (g:α→α→Bool):Bool:=(List.range l.length).all fun i=>match l[i]? with
 | none=>true
 | some t=>f t && (l.take i).all fun s=>g s t
theorem tri_f {α:Type} (l:List α) (f:α→Bool) (g:α→α→Bool) (i:Nat) (hi:i<l.length) (h:f l[i]=false):triB l f g=false:=by
 unfold triB
 rw [List.all_eq_false]
 exact ⟨i,List.mem_range.2 hi,by simp [List.getElem?_eq_getElem hi,h]⟩
theorem tri_g {α:Type} (l:List α) (f:α→Bool) (g:α→α→Bool) (i k:Nat) (hk:k<i) (hi:i<l.length) (h:g (l[k]'(by omega)) l[i]=false):triB l f g=false:=by
 unfold triB
 rw [List.all_eq_false]
 refine ⟨i,List.mem_range.2 hi,?_⟩
 have:(l.take i).all (fun s=>g s l[i])=false:=by
  rw [List.all_eq_false]
  refine ⟨l[k]'(by omega),?_,by simp [h]⟩
  rw [List.mem_iff_getElem]
  exact ⟨k,by rw [List.length_take];omega,by simp⟩
 simp [List.getElem?_eq_getElem hi,this]
theorem tri_ok {α:Type} (l:List α) (f:α→Bool) (g:α→α→Bool) (h1:∀ i (hi:i<l.length),f l[i]=true) (h2:∀ i k (hk:k<i) (hi:i<l.length),g (l[k]'(by omega)) l[i]=true):triB l f g=true:=by
 unfold triB
 rw [List.all_eq_true]
 intro i hi
 have hi:=List.mem_range.1 hi
 rw [List.getElem?_eq_getElem hi]
 simp only [Bool.and_eq_true]
 refine ⟨h1 i hi,List.all_eq_true.2 fun s hs=>?_⟩
 obtain ⟨k,hk,rfl⟩:=List.mem_iff_getElem.1 hs
 rw [List.length_take] at hk
 have:=h2 i k (by omega) hi
 simpa using this

def pairR (p:Pl) (s t:Sg):Bool:=if s.arc.id=t.arc.id then apartS s t else joinedS p s t
def planarR (p:Pl):Bool:=triB (segsS p) (aloneS p) (pairR p)

end Go.Proofs.YtnhdmghgjngcaaaGreat
namespace Go.Proofs.YtnhdmghgjngcaaaGreat
open Go.RowKit

def orderedS (p:Pl):Bool:=asc (p.nodes.map (·.id)) && asc (p.arcs.map (·.id)) && asc p.faces
def sidesS (p:Pl):Bool:=p.arcs.all fun a=>faceS p.faces a.left && faceS p.faces a.right
def checkS (p:Pl):Int :=
 if limS p=true then 3 else if orderedS p=false then 10 else if rangesS p=false then 2 else if dupS (p.nodes.map (·.pt))=true then 8
 else if p.arcs.all (hasEnds p)=false then 7 else if sidesS p=false then 12 else if planarR p=false then 11 else 0

theorem flat_le {α β:Type} (l:List α) (f:α→List β) (n:Nat) (h:∀ a∈l,(f a).length≤n):(l.flatMap f).length≤l.length*n:=by
 induction l with
 | nil=>simp
 | cons a l ih =>
  simp only [List.flatMap_cons,List.length_append,List.length_cons,Nat.succ_mul]
  have:=h a (by simp)
  have:=ih fun b hb=>h b (by simp [hb])
  omega
theorem limS_no {p:Pl} (h:limS p=false):(∀ a∈p.arcs,a.via.length≤64)∧p.nodes.length≤256∧p.arcs.length≤256∧p.faces.length≤64∧(p.arcs.flatMap (·.via)).length≤16384:=by
 unfold limS at h
 simp only [Bool.or_eq_false_iff,decide_eq_false_iff_not,List.any_eq_false,decide_eq_true_eq] at h
 obtain ⟨h1,⟨h2,h3⟩,h4⟩:=h
 have h5:∀ a∈p.arcs,a.via.length≤64:=fun a ha=>by have:=h1 a ha;omega
 have h6:=flat_le p.arcs (·.via) 64 h5
 refine ⟨h5,by omega,by omega,by omega,by omega⟩

end Go.Proofs.YtnhdmghgjngcaaaGreat
namespace Go.Proofs.YtnhdmghgjngcaaaGreat
open Go.RowKit

def hasB (l:List Int) (a:Ar):Bool:=l.any (fun y=>y == a.fr) && l.any (fun y=>y == a.dst)
def connS (p:Pl) (l:List Int):Int :=
 if dupS (p.nodes.map (·.pt))=true then 8 else if p.arcs.all (hasB l)=false then 7 else if sidesS p=false then 12 else 0

set_option maxRecDepth 100000 in
set_option maxHeartbeats 4000000 in
theorem connected_spec (v u:Value) (p:Pl) (l:List Int) (w:World) (h:PlV w v p) (hu:Ints w u l) :
  Calls Tryz.prog 87 #[v,u] w fun e w'=>e=.returned (.int .i64 (connS p l))∧Below w.heap.size w w':=by
 obtain ⟨_,_,vf,al,rfl,hpa,⟨An,cn,rfl,hn1,hn2,hR⟩,⟨⟨Aa,ca,rfl,ha1,ha2,hRa⟩,hV⟩,hF⟩:=h
 unfold maxLen at hn2 ha2
 have HF:=Lib.hid hF;clear hF
 have HU:=Lib.hid hu;clear hu
 have HV:=Lib.hid hV;clear hV
 have HR:=Lib.hid hR;clear hR
 have HRa:=Lib.hid hRa;clear hRa
 have hc:connS p l=if dupS (p.nodes.map (·.pt))=true then 8 else if al.all (fun a=>hasB l a.1)=false then 7 else if al.all (fun a=>faceS p.faces a.1.left && faceS p.faces a.1.right)=false then 12 else 0:=by
  unfold connS sidesS;rw [hpa,List.all_map,List.all_map];rfl
 obtain ⟨q,hq⟩:∃ q,connS p l=q:=⟨_,rfl⟩
 rw [hq]
 rw [hc] at hq
 have Hq:=Lib.hid hq;clear hq hc hpa
 generalize p.nodes=nl at *
 generalize p.faces=fl at *
 go_enter Tryz.func87,Tryz.ntmps87
 go_wp2_with fail
 obtain ⟨W0,hW0⟩:∃ W0:World,W0=w.alloc (.cells #[.slice An nl.length cn,.slice Aa al.length ca,vf] 26):=⟨_,rfl⟩
 have X1:Blk W0 w.heap.size 26 #[.slice An nl.length cn,.slice Aa al.length ca,vf]:=by rw [hW0];exact Blk.made rfl _ _
 have Bw0:Below w.heap.size w W0:=by rw [hW0];exact bA (bR w) _
 rw [← hW0]
 have HX0:=Lib.hid X1
 have HB0:=Lib.hid Bw0
 clear hW0 X1 Bw0
 go_loopw [18] (fun s wr=>∃ i:Nat,i≤nl.length∧s=.int .i64 i∧Below W0.heap.size W0 wr∧∀ j k (hk:k<j) (hj:j<nl.length),j<i→¬ nl[j].pt=nl[k].pt) (fun s _=>nl.length-(intOf s).toNat)
 case atStart => exact ⟨0,Nat.zero_le _,rfl,bR W0,fun _ _ _ _ h=>by omega⟩
 case round =>
  obtain ⟨i,hi,rfl,hb,hno⟩:=hrel
  have Hb:=Lib.hid hb
  have Hno:=Lib.hid hno
  have X1:=HX0.out.keep hb
  clear hb hno
  obtain ⟨X1l,X1a,X1b,X1c,-,-,-⟩:=X1.facts3
  by_cases hlt:i<nl.length
  case pos =>
   obtain ⟨b,o,rfl,hlb,c0,c1,c2⟩:=(HR.out.mono (bT HB0.out Hb.out)).nd hlt
   go_wp2_with fail
   obtain ⟨W1,hW1⟩:∃ W1:World,W1=wr.alloc (.cells #[.int .i64 nl[i].id,.int .i64 nl[i].pt.x,.int .i64 nl[i].pt.y] 38):=⟨_,rfl⟩
   have B1:Below W0.heap.size W0 W1:=by rw [hW1];exact bA Hb.out _
   have X6:Blk W1 wr.heap.size 38 #[.int .i64 nl[i].id,.int .i64 nl[i].pt.x,.int .i64 nl[i].pt.y]:=by rw [hW1];exact Blk.made rfl _ _
   rw [← hW1]
   have HX6:=Lib.hid X6
   have HB1:=Lib.hid B1
   clear c0 c1 c2 hlb hW1 X1 X1l X1a X1b X1c X6 B1
   obtain ⟨wo,rfl⟩:∃ wo:World,wo=wr:=⟨_,rfl⟩
   go_loopw [28] (fun s wx=>∃ k:Nat,k≤i∧s=.int .i64 k∧Below W1.heap.size W1 wx∧∀ m (hm:m<nl.length),m<k→¬ nl[i].pt=nl[m].pt) (fun s _=>i-(intOf s).toNat)
   case atStart => exact ⟨0,Nat.zero_le _,rfl,bR W1,fun _ _ h=>by omega⟩
   case round =>
    obtain ⟨k,hk,rfl,hb,hno2⟩:=hrel
    have Hb2:=Lib.hid hb
    have Hno2:=Lib.hid hno2
    have X6:=HX6.out.keep hb
    clear hb hno2
    by_cases hlk:k<i
    case neg =>
     have HN:=Lib.hid (show ∀ j m (hm:m<j) (hj:j<nl.length),j<i+1→¬ nl[j].pt=nl[m].pt from fun j m hm hj hji=>by
      by_cases e:j<i
      · exact Hno.out j m hm hj e
      ·
       have:j=i:=by omega
       subst this;exact Hno2.out m (by omega) (by omega))
     go_wp2_with fail
     go_roundw
     case rel => exact ⟨i+1,by omega,by go_num,bT HB1.out Hb2.out,HN.out⟩
     case measure => simp [intOf];omega
    have hkl:k<nl.length:=by omega
    obtain ⟨b',o',hbo,hlb,c0,c1,c2⟩:=(HR.out.mono (bT HB0.out (bT HB1.out Hb2.out))).nd hkl
    simp only [Option.some.injEq,Addr.mk.injEq,and_true] at hbo
    obtain ⟨rfl,rfl⟩:=hbo
    obtain ⟨X6l,X6a,X6b,X6c,-,-,-⟩:=X6.facts3
    have hE:=run_eql_pt nl[i].pt nl[k].pt
    by_cases he:nl[i].pt=nl[k].pt
    ·
     have hd:decide (nl[i].pt=nl[k].pt)=true:=decide_eq_true he
     have hf:=Lib.hid (show 8=q by rw [← Hq.out,if_pos (dup_yes (nl.map (·.pt)) i k hlk (by simpa using hlt) (by simpa using he))])
     clear he
     go_wp2_with fail
     go_ret
     exact ⟨ret_int hf.out,bT HB0.out (bT HB1.out (bA Hb2.out _))⟩
    ·
     have hd:decide (nl[i].pt=nl[k].pt)=false:=decide_eq_false he
     have He:=Lib.hid he
     clear he
     go_wp2_with fail
     go_roundw
     case rel => exact ⟨k+1,by omega,by go_num,bA Hb2.out _,fun m hm hmk=>if e:m<k then Hno2.out m hm e else by
       have:m=k:=by omega
       subst this;exact He.out⟩
     case measure => simp [intOf];omega
  case neg =>
  have hd:=Lib.hid (dup_no (nl.map (·.pt)) (fun j m hm hj=>by
    have:=Hno.out j m hm (by simpa using hj) (by rw [List.length_map] at hj;omega)
    simpa using this))
  have ho:=Hq.out
  rw [hd.out] at ho
  simp only [Bool.false_eq_true,if_false] at ho
  replace Hq:=Lib.hid ho
  clear ho hd
  go_wp2_with fail
  obtain ⟨wo,rfl⟩:∃ wo:World,wo=wr:=⟨_,rfl⟩
  have HX1:=Lib.hid X1
  have HBo:=Lib.hid (bT HB0.out Hb.out)
  clear X1 X1l X1a X1b X1c Hno
  go_loopw [42] (fun s wr=>∃ k:Nat,k≤al.length∧s=.int .i64 k∧Below wo.heap.size wo wr∧∀ j (hj:j<al.length),j<k→hasB l al[j].1=true) (fun s _=>al.length-(intOf s).toNat)
  case atStart => exact ⟨0,Nat.zero_le _,rfl,bR wo,fun _ _ h=>by omega⟩
  case round =>
   obtain ⟨k,hk,rfl,hb,hno⟩:=hrel
   have Hb2:=Lib.hid hb
   have Hno:=Lib.hid hno
   have X1:=HX1.out.keep hb
   clear hb hno
   try clear X1l
   try clear X1a
   try clear X1b
   try clear X1c
   obtain ⟨X1l,X1a,X1b,X1c,-,-,-⟩:=X1.facts3
   by_cases hlt:k<al.length
   case pos =>
    obtain ⟨b,o,rfl,hlb,c0,c1,c2,c3,c4,c5⟩:=(HRa.out.mono (bT HBo.out Hb2.out)).ar hlt
    obtain ⟨Av,cv,hv,-⟩:=HV.out k hlt
    rw [hv] at c3
    clear hv
    go_wp2_with fail
    refine (Contains_int_spec _ l _ _ (HU.out.mono (bA (bT HBo.out Hb2.out) _))).mono ?_
    rintro e w2 ⟨rfl,hb2⟩
    have B2:=bT (bA Hb2.out _) hb2
    have X10:Blk w2 wr.heap.size 41 _:=(Blk.made rfl _ _).keep hb2
    clear hb2 c0 c1 c2 c3 c4 c5 hlb
    obtain ⟨X10l,X10a,X10b,X10c,X10d,X10e,X10f,-,-,-,-,-,-⟩:=X10.facts6
    cases h1:l.any (fun y=>y == al[k].1.fr)
    case false =>
     have hg:=Lib.hid (all_hit al (fun a=>hasB l a.1) k hlt (by simp [hasB,h1]))
     have hf:=Lib.hid (show 7=q by rw [← Hq.out,if_pos hg.out])
     clear h1
     go_wp2_with fail
     go_ret
     exact ⟨ret_int hf.out,bT HBo.out B2⟩
    have H1:=Lib.hid h1;clear h1
    go_wp2_with fail
    refine (Contains_int_spec _ l _ _ (HU.out.mono (bT HBo.out B2))).mono ?_
    rintro e w3 ⟨rfl,hb3⟩
    have B3:=bT B2 hb3
    clear hb3 X10 X10l X10a X10b X10c X10d X10e X10f
    cases h1:l.any (fun y=>y == al[k].1.dst)
    case false =>
     have hg:=Lib.hid (all_hit al (fun a=>hasB l a.1) k hlt (by simp [hasB,h1]))
     have hf:=Lib.hid (show 7=q by rw [← Hq.out,if_pos hg.out])
     clear h1
     go_wp2_with fail
     go_ret
     exact ⟨ret_int hf.out,bT HBo.out B3⟩
    have hg:=Lib.hid (show hasB l al[k].1=true by simp only [hasB,H1.out,h1];rfl)
    clear h1
    go_wp2_with fail
    go_roundw
    case rel => exact ⟨k+1,by omega,by go_num,B3,all_succ (p:=fun x=>hasB l x.1=true) Hno.out hlt hg.out⟩
    case measure => simp [intOf];omega
   case neg =>
   have hd:=Lib.hid (all_miss al (fun a=>hasB l a.1) (fun j hj=>Hno.out j hj (by omega)))
   have ho:=Hq.out
   rw [hd.out] at ho
   simp only [Bool.true_eq_false,if_false] at ho
   replace Hq:=Lib.hid ho
   clear ho hd
   go_wp2_with fail
   obtain ⟨wq,rfl⟩:∃ wq:World,wq=wr:=⟨_,rfl⟩
   replace HX1:=Lib.hid X1
   replace HBo:=Lib.hid (bT HBo.out Hb2.out)
   clear X1 X1l X1a X1b X1c Hno Hb2
   go_loopw [62] (fun s wr=>∃ k:Nat,k≤al.length∧s=.int .i64 k∧Below wq.heap.size wq wr∧∀ j (hj:j<al.length),j<k→(faceS fl al[j].1.left && faceS fl al[j].1.right)=true) (fun s _=>al.length-(intOf s).toNat)
   case atStart => exact ⟨0,Nat.zero_le _,rfl,bR wq,fun _ _ h=>by omega⟩
   case round =>
    obtain ⟨k,hk,rfl,hb,hno⟩:=hrel
    have Hb2:=Lib.hid hb
    have Hno:=Lib.hid hno
    have X1:=HX1.out.keep hb
    clear hb hno
    try clear X1l
    try clear X1a
    try clear X1b
    try clear X1c
    obtain ⟨X1l,X1a,X1b,X1c,-,-,-⟩:=X1.facts3
    by_cases hlt:k<al.length
    case neg =>
     have hd:=Lib.hid (all_miss al (fun a=>faceS fl a.1.left && faceS fl a.1.right) (fun j hj=>Hno.out j hj (by omega)))
     have hf:=Lib.hid (show 0=q by rw [← Hq.out,hd.out];rfl)
     go_wp2_with fail
     go_ret
     exact ⟨ret_int hf.out,bT HBo.out Hb2.out⟩
    obtain ⟨b,o,rfl,hlb,c0,c1,c2,c3,c4,c5⟩:=(HRa.out.mono (bT HBo.out Hb2.out)).ar hlt
    obtain ⟨Av,cv,hv,-⟩:=HV.out k hlt
    rw [hv] at c3
    clear hv
    go_wp2_with fail
    obtain ⟨W5,hW5⟩:∃ W5:World,W5=wr.alloc (.cells #[.int .i64 al[k].1.id,.int .i64 al[k].1.fr,.int .i64 al[k].1.dst,.slice Av al[k].1.via.length cv,.int .i64 al[k].1.left,.int .i64 al[k].1.right] 41):=⟨_,rfl⟩
    have hA5:Below wr.heap.size wr W5:=by rw [hW5];exact bA (bR wr) _
    have HB5:=Lib.hid (bT Hb2.out hA5)
    have HX5:=Lib.hid (X1.keep hA5)
    rw [← hW5]
    clear c0 c1 c2 c3 c4 c5 hlb hW5 hA5 X1 X1l X1a X1b X1c
    obtain ⟨wp,rfl⟩:∃ wp:World,wp=wr:=⟨_,rfl⟩
    go_loopw [71] (fun s wx=>∃ j:Int,(j=0∨j=1∨j=2)∧s=.int .i64 j∧Below W5.heap.size W5 wx∧(1≤j→faceS fl al[k].1.left=true)∧(2≤j→faceS fl al[k].1.right=true)) (fun s _=>2-(intOf s).toNat)
    case atStart => exact ⟨0,by omega,rfl,bR W5,fun h=>by omega,fun h=>by omega⟩
    case round =>
     obtain ⟨j,hj,rfl,hb,hl,hr⟩:=hrel
     have Hb3:=Lib.hid hb
     have Hl:=Lib.hid hl
     have Hr:=Lib.hid hr
     clear hb hl hr
     rcases hj with rfl | rfl | rfl
     ·
      have hI:∀ w,(Instr.index 147 (.agg #[.int .i64 al[k].1.left,.int .i64 al[k].1.right]) (.int .i64 0)).run Tryz.prog w=.ok (.int .i64 al[k].1.left) w:=fun _=>by kernel_rfl
      cases hz:(al[k].1.left != 0)
      case false =>
       have hg:=Lib.hid (show faceS fl al[k].1.left=true by
        have:al[k].1.left=0:=by simpa [bne_eq_false_iff_eq] using hz
        simp [faceS,this])
       go_wp2_with fail
       go_roundw
       case rel => exact ⟨1,by omega,rfl,Hb3.out,fun h=>by first | exact hg.out | exact Hl.out (by omega),fun h=>by first | omega | exact hg.out⟩
       case measure => simp [intOf]
      have X1:=HX5.out.keep Hb3.out
      try clear X1l
      try clear X1a
      try clear X1b
      try clear X1c
      obtain ⟨X1l,X1a,X1b,X1c,-,-,-⟩:=X1.facts3
      go_wp2_with fail
      refine (Contains_int_spec _ fl _ _ (HF.out.mono (bT HBo.out (bT HB5.out Hb3.out)))).mono ?_
      rintro e w6 ⟨rfl,hb6⟩
      have B6:=bT Hb3.out hb6
      clear hb6 X1 X1l X1a X1b X1c
      cases h1:fl.any (fun y=>y == al[k].1.left)
      case false =>
       have hfc:=Lib.hid (show faceS fl al[k].1.left=false by
        have:¬ al[k].1.left=0:=by simpa using hz
        simp only [faceS,h1];simpa using this)
       have hg:=Lib.hid (all_hit al (fun a=>faceS fl a.1.left && faceS fl a.1.right) k hlt (by simp [hfc.out]))
       have hf:=Lib.hid (show 12=q by rw [← Hq.out,if_pos hg.out])
       clear h1
       go_wp2_with fail
       go_ret
       exact ⟨ret_int hf.out,bT HBo.out (bT HB5.out B6)⟩
      have hg:=Lib.hid (show faceS fl al[k].1.left=true by simp [faceS,h1])
      clear h1
      go_wp2_with fail
      go_roundw
      case rel => exact ⟨1,by omega,rfl,B6,fun h=>by first | exact hg.out | exact Hl.out (by omega),fun h=>by first | omega | exact hg.out⟩
      case measure => simp [intOf]
     ·
      have hI:∀ w,(Instr.index 147 (.agg #[.int .i64 al[k].1.left,.int .i64 al[k].1.right]) (.int .i64 1)).run Tryz.prog w=.ok (.int .i64 al[k].1.right) w:=fun _=>by kernel_rfl
      cases hz:(al[k].1.right != 0)
      case false =>
       have hg:=Lib.hid (show faceS fl al[k].1.right=true by
        have:al[k].1.right=0:=by simpa [bne_eq_false_iff_eq] using hz
        simp [faceS,this])
       go_wp2_with fail
       go_roundw
       case rel => exact ⟨2,by omega,rfl,Hb3.out,fun h=>by first | exact hg.out | exact Hl.out (by omega),fun h=>by first | omega | exact hg.out⟩
       case measure => simp [intOf]
      have X1:=HX5.out.keep Hb3.out
      try clear X1l
      try clear X1a
      try clear X1b
      try clear X1c
      obtain ⟨X1l,X1a,X1b,X1c,-,-,-⟩:=X1.facts3
      go_wp2_with fail
      refine (Contains_int_spec _ fl _ _ (HF.out.mono (bT HBo.out (bT HB5.out Hb3.out)))).mono ?_
      rintro e w6 ⟨rfl,hb6⟩
      have B6:=bT Hb3.out hb6
      clear hb6 X1 X1l X1a X1b X1c
      cases h1:fl.any (fun y=>y == al[k].1.right)
      case false =>
       have hfc:=Lib.hid (show faceS fl al[k].1.right=false by
        have:¬ al[k].1.right=0:=by simpa using hz
        simp only [faceS,h1];simpa using this)
       have hg:=Lib.hid (all_hit al (fun a=>faceS fl a.1.left && faceS fl a.1.right) k hlt (by simp [hfc.out]))
       have hf:=Lib.hid (show 12=q by rw [← Hq.out,if_pos hg.out])
       clear h1
       go_wp2_with fail
       go_ret
       exact ⟨ret_int hf.out,bT HBo.out (bT HB5.out B6)⟩
      have hg:=Lib.hid (show faceS fl al[k].1.right=true by simp [faceS,h1])
      clear h1
      go_wp2_with fail
      go_roundw
      case rel => exact ⟨2,by omega,rfl,B6,fun h=>by first | exact hg.out | exact Hl.out (by omega),fun h=>by first | omega | exact hg.out⟩
      case measure => simp [intOf]
     ·
      have hg:=Lib.hid (show (faceS fl al[k].1.left && faceS fl al[k].1.right)=true by rw [Hl.out (by omega),Hr.out (by omega)];rfl)
      go_wp2_with fail
      go_roundw
      case rel => exact ⟨k+1,by omega,by go_num,bT HB5.out Hb3.out,all_succ (p:=fun x=>(faceS fl x.1.left && faceS fl x.1.right)=true) Hno.out hlt hg.out⟩
      case measure => simp [intOf];omega
end Go.Proofs.YtnhdmghgjngcaaaGreat
namespace Go.Proofs.YtnhdmghgjngcaaaGreat
open Go.RowKit

theorem info_pt:∃ i,Tryz.prog.info? 36=some i∧i.zero=some (.agg #[.int .i64 0,.int .i64 0])∧i.size=2∧i.bytes=16:=info_parts (by kernel_rfl)

set_option maxRecDepth 100000 in
set_option maxHeartbeats 1000000 in
theorem Grow_pt_spec (n:Nat) (w:World) (h1:1≤n) (h2:n≤2097152) :
  Calls Tryz.prog 66 #[.slice none 0 0,.int .i64 n] w fun e w'=>∃ c,e=.returned (.slice (some ⟨w.heap.size,0,none⟩) 0 c)∧Below w.heap.size w w'∧Own w' w.heap.size 36 2 ptC (.slice (some ⟨w.heap.size,0,none⟩) 0 c) []:=by
 obtain ⟨i,hi,hz,hs,hb⟩:=info_pt
 have hr:∀ ty,(Builtin.append_ #[39,3] ty #[.slice none 0 0,.int .i64 n]).run Tryz.prog w=_:=fun ty =>
  Lib.run_append_grow_zeros w 39 3 ty 36 i _ .i64 .i64 Tryz.underlying39 Tryz.underlying3 hi hz none 0 0 [] (by simpa using run_firstCells_none (P:=Tryz.prog) (w:=w.drew) i.size 0 0 0) n (by omega) (by omega) (by omega) (by omega) (by rw [hb];omega)
   (by rw [hb];exact growslice_fits (by omega) (by omega))
 have hge:=grownCap_ge w (0+n) 0 36
 have hle:=grownCap_le_maxLen w (0+n) 0 36 (by unfold maxLen;omega)
 have hle':=hle
 unfold maxLen at hle'
 generalize hG:grownCap w (0+n) 0 36=G at *
 have HR:=Lib.hid hr
 have Hle:=Lib.hid hle
 clear hr hG hle hi hz hs hb
 simp only [Nat.zero_add] at HR
 have q1:¬ ((n:Int)<0):=by omega
 have q2:0<(n:Int):=by omega
 go_enter Tryz.func66,Tryz.ntmps66
 go_wp2_with (at_builtin;refine Lib.wpList_append_run _ rfl _ _ _ _ rfl _ _ rfl rfl _ _ (HR.out _) ?_)
 go_ret
 refine ⟨_,rfl,bA (bD (bR w)) _,?_⟩
 refine ⟨rfl,.inr ⟨w.heap.size,_,_,rfl,Nat.le_refl _,heap_alloc_new _ _,Nat.zero_le _,Hle.out,?_,by simp⟩⟩
 simp only [Array.size_append,List.size_toArray,List.length_nil,size_zeroCells]
 simp only [Value.cells,List.size_toArray,List.length_cons,List.length_nil]
 omega

structure PS where
 l:List Pt
 a:Option Addr
 c:Nat
def psC (x:PS):List Value:=[.slice x.a x.l.length x.c]
theorem Row.ps {w:World} {A:Option Addr} {l:List PS} (h:Row w A (l.flatMap psC)) {k:Nat} (hk:k<l.length) :
  ∃ b o,A=some ⟨b,o,none⟩∧b<w.heap.size∧w.cell? ⟨b,o+k,none⟩=some (.slice l[k].a l[k].l.length l[k].c):=by
 obtain ⟨b,o,hA,hb,hc⟩:=h.at_ (n:=1) (fun _=>rfl) hk (by omega)
 exact ⟨b,o,hA,hb,by simpa using hc 0 _ rfl⟩

def sumL (L:List PS) (k:Nat):Nat:=((L.take k).flatMap (·.l)).length
theorem sumL_succ (L:List PS) (k:Nat) (hk:k<L.length):sumL L (k+1)=sumL L k+L[k].l.length:=by
 unfold sumL
 rw [List.take_succ_eq_append_getElem hk,List.flatMap_append,List.length_append];simp

set_option maxRecDepth 100000 in
set_option maxHeartbeats 1000000 in
theorem Concat_pt_spec (v:Value) (L:List PS) (w:World) (hv:Sl w v L.length (L.flatMap psC)) (hp:∀ k (hk:k<L.length),Pts w (.slice L[k].a L[k].l.length L[k].c) L[k].l)
  (hL:L.length≤1048576) (h1:1≤(L.flatMap (·.l)).length) (h2:(L.flatMap (·.l)).length≤2097152) :
  Calls Tryz.prog 45 #[v] w (RetOwnPts w (L.flatMap (·.l))):=by
 obtain ⟨A,c,rfl,hn,hc,hR⟩:=hv
 unfold maxLen at hc
 have HP:=Lib.hid hp;clear hp
 have HR:=Lib.hid hR;clear hR
 have hb:∀ k,sumL L k≤2097152:=fun k=>Nat.le_trans (flat_take_le L (·.l) k) h2
 have HBd:=Lib.hid hb;clear hb
 have H1:=Lib.hid h1;have H2:=Lib.hid h2
 clear h1 h2
 go_enter Tryz.func45,Tryz.ntmps45
 go_wp2_with fail
 go_loopw [3,11] (fun s i wr=>∃ k:Nat,k≤L.length∧i=.int .i64 k∧s=.int .i64 (sumL L k:Nat)∧wr=w) (fun _ i _=>L.length-(intOf i).toNat)
 case atStart => exact ⟨0,Nat.zero_le _,rfl,rfl,rfl⟩
 case round =>
  obtain ⟨k,hk,rfl,rfl,rfl⟩:=hrel
  by_cases hlt:k<L.length
  case pos =>
   obtain ⟨b,o,rfl,hlb,c0⟩:=HR.out.ps hlt
   have ht:=sumL_succ L k hlt
   have hb:=HBd.out (k+1)
   have Ht:=Lib.hid ht
   rw [ht] at hb
   clear ht
   go_wp2_with fail
   go_roundw
   case rel => exact ⟨k+1,by omega,by go_num,by rw [Ht.out];go_num,trivial⟩
   case measure => simp [intOf];omega
  have hE:L.take k=L:=List.take_of_length_le (by omega)
  have hN0:sumL L k=(L.flatMap (·.l)).length:=by unfold sumL;rw [hE]
  rw [hN0]
  have h1:=H1.out
  have h2:=H2.out
  clear hE hN0
  generalize hN:(L.flatMap (·.l)).length=N at *
  have HN:=Lib.hid hN
  clear hN
  go_wp2_with fail
  refine (Grow_pt_spec N _ h1 h2).mono ?_
  rintro e w1 ⟨c1,rfl,hb1,hown⟩
  have Hown:=Lib.hid hown
  have Hb1:=Lib.hid hb1
  clear hown hb1 h1 h2
  obtain ⟨wo,rfl⟩:∃ wo:World,wo=wr:=⟨_,rfl⟩
  go_wp2_with fail
  go_loopw [6,27] (fun s i wr=>∃ k:Nat,k≤L.length∧i=.int .i64 k∧Own wr wo.heap.size 36 2 ptC s ((L.take k).flatMap (·.l))∧Below wo.heap.size wo wr) (fun _ i _=>L.length-(intOf i).toNat)
  case atStart => exact ⟨0,Nat.zero_le _,rfl,Hown.out,Hb1.out⟩
  case round =>
   obtain ⟨k,hk,rfl,hown,hb⟩:=hrel
   have Hb:=Lib.hid hb
   replace Hown:=Lib.hid hown
   have hsz:=hb.size
   clear hb hown
   by_cases hlt:k<L.length
   case neg =>
    have hE:L.take k=L:=List.take_of_length_le (by omega)
    have ho:=Hown.out
    rw [hE] at ho
    replace Hown:=Lib.hid ho
    clear ho hE
    go_wp2_with fail
    go_ret
    exact ⟨_,rfl,Hb.out,Hown.out⟩
   obtain ⟨b,o,rfl,hlb,c0⟩:=(HR.out.mono Hb.out).ps hlt
   have hlen:=Lib.hid (show ((L.take k).flatMap (·.l)).length+L[k].l.length≤2097152 by
    have ht:=sumL_succ L k hlt
    have:=HBd.out (k+1)
    show sumL L k+L[k].l.length≤2097152
    omega)
   go_wp2_with
    (at_builtin
     refine wpList_appl _ rfl (.tmp 31) (.tmp 32) _ rfl (base:=wo.heap.size) elem_pt ptC_len ptC_one rfl Hown.out rfl (l2:=L[k].l) ((HP.out k hlt).mono Hb.out) (by have:=hlen.out;omega) (by have:=hlen.out;omega) hsz ?_
     intro v1 w1 hown1 hg hat
     have Bw1:=Lib.hid (show Below wo.heap.size wo w1 from bG Hb.out hg (fun g hk=>(Hown.out.lt g hk).1))
     clear hg hat
     have Hown1:=Lib.hid hown1;clear hown1)
   go_roundw
   case rel => exact ⟨k+1,by omega,by go_num,by rw [List.take_succ_eq_append_getElem hlt,List.flatMap_append];simpa using Hown1.out,Bw1.out⟩
   case measure => simp [intOf];omega

set_option maxRecDepth 100000 in
set_option maxHeartbeats 2000000 in
theorem Path_spec (v:Value) (p:Pl) (id:Int) (w:World) (h:PlV w v p) (hsh:Short p) :
  Calls Tryz.prog 26 #[v,.int .i64 id] w (RetPathE w (pathOf p id)):=by
 have HP:=Lib.hid h
 have HSh:=Lib.hid hsh;clear hsh
 obtain ⟨vn,vr,vf,al,rfl,-⟩:=h
 have TN:∀ id W,Below w.heap.size w W→Calls Tryz.prog 44 #[.agg #[vn,vr,vf],.int .i64 id] W _:=fun id W hW=>Node_spec _ p id W (HP.out.mono hW)
 simp only [ndRes,ndV] at TN
 have HN:=Lib.hid TN;clear TN
 obtain ⟨q,hq⟩:∃ q,pathOf p id=q:=⟨_,rfl⟩
 rw [hq]
 have Hq:=Lib.hid hq;clear hq
 go_enter Tryz.func26,Tryz.ntmps26
 go_wp2_with fail
 refine (Arc_spec _ p id _ (HP.out.mono (bA (bR w) _)) HSh.out).mono ?_
 rintro e w1 ⟨v1,rfl,hb1,hp1⟩
 have Bw:Below w.heap.size w w1:=by
  repeat (first | with_reducible exact bR _ | with_reducible assumption | with_reducible refine bA ?_ _ | with_reducible refine bD ?_ | with_reducible refine bN ?_ _ | ((with_reducible refine bS ?_ ?_ _);rotate_left;(simp;try omega)) | ((with_reducible refine bT ?_ ?_);rotate_left;with_reducible assumption) | with_reducible refine bT ?_ (by assumption))
 have X2:Blk _ (w.heap.size) 26 #[vn,vr,vf]:=Blk.keep (by repeat (first | exact Blk.made (by simp) _ _ | refine Blk.alloc ?_ _)) hb1
 clear hb1
 have HP1:=Lib.hid hp1
 obtain ⟨A1,c1,rfl,-⟩:=hp1
 generalize hr:findAr p.arcs id=r at *
 have Hr:=Lib.hid hr;clear hr
 obtain ⟨a,ha⟩:∃ a,r.getD ar0=a:=⟨_,rfl⟩
 rw [ha] at HP1 ⊢
 obtain ⟨s,hs⟩:∃ s,r.isSome=s:=⟨_,rfl⟩
 rw [hs]
 have Ha:=Lib.hid ha;have Hs:=Lib.hid hs;clear ha hs
 simp only [arV]
 obtain ⟨X2l,X2a,X2b,X2c,-,-,-⟩:=X2.facts3
 go_wp2_with fail
 refine (HN.out _ _ (bA Bw _)).mono ?_
 rintro e w2 ⟨rfl,hb2⟩
 have X6:Blk w2 w1.heap.size 41 #[.int .i64 a.id,.int .i64 a.fr,.int .i64 a.dst,.slice A1 a.via.length c1,.int .i64 a.left,.int .i64 a.right]:=(Blk.made rfl _ _).keep hb2
 replace X2:=(X2.alloc _).keep hb2
 have HP2:=Lib.hid ((HP1.out.mono (bA (bR w1) _)).mono hb2)
 replace Bw:=bT (bA Bw _) hb2
 clear hb2
 obtain ⟨n1,hn1⟩:∃ n1,(findNd p.nodes a.fr).getD nd0=n1:=⟨_,rfl⟩
 rw [hn1]
 obtain ⟨s1,hs1⟩:∃ s1,(findNd p.nodes a.fr).isSome=s1:=⟨_,rfl⟩
 rw [hs1]
 have Hn1:=Lib.hid hn1;have Hs1:=Lib.hid hs1;clear hn1 hs1
 try clear X2l
 try clear X2a
 try clear X2b
 try clear X2c
 obtain ⟨X2l,X2a,X2b,X2c,-,-,-⟩:=X2.facts3
 obtain ⟨X6l,X6a,X6b,X6c,X6d,X6e,X6f,-,-,-,-,-,-⟩:=X6.facts6
 go_wp2_with fail
 refine (HN.out _ _ (bA Bw _)).mono ?_
 rintro e w3 ⟨rfl,hb3⟩
 have X8:Blk w3 w2.heap.size 38 #[.int .i64 n1.id,.int .i64 n1.pt.x,.int .i64 n1.pt.y]:=(Blk.made rfl _ _).keep hb3
 replace X2:=(X2.alloc _).keep hb3
 replace X6:=(X6.alloc _).keep hb3
 have HP3:=Lib.hid ((HP2.out.mono (bA (bR w2) _)).mono hb3)
 replace Bw:=bT (bA Bw _) hb3
 clear hb3
 obtain ⟨n2,hn2⟩:∃ n2,(findNd p.nodes a.dst).getD nd0=n2:=⟨_,rfl⟩
 rw [hn2]
 obtain ⟨s2,hs2⟩:∃ s2,(findNd p.nodes a.dst).isSome=s2:=⟨_,rfl⟩
 rw [hs2]
 have Hn2:=Lib.hid hn2;have Hs2:=Lib.hid hs2;clear hn2 hs2
 try clear X2l
 try clear X2a
 try clear X2b
 try clear X2c
 obtain ⟨X2l,X2a,X2b,X2c,-,-,-⟩:=X2.facts3
 try clear X6l
 try clear X6a
 try clear X6b
 try clear X6c
 try clear X6d
 try clear X6e
 try clear X6f
 obtain ⟨X6l,X6a,X6b,X6c,X6d,X6e,X6f,-,-,-,-,-,-⟩:=X6.facts6
 obtain ⟨X8l,X8a,X8b,X8c,-,-,-⟩:=X8.facts3
 go_upto_region 4 with fail
 obtain ⟨W4,hW4⟩:∃ W4:World,W4=w3.alloc (.cells #[.int .i64 n2.id,.int .i64 n2.pt.x,.int .i64 n2.pt.y] 38):=⟨_,rfl⟩
 have X10:Blk W4 w3.heap.size 38 #[.int .i64 n2.id,.int .i64 n2.pt.x,.int .i64 n2.pt.y]:=by rw [hW4];exact Blk.made rfl _ _
 have hb4:Below w3.heap.size w3 W4:=by rw [hW4];exact bA (bR w3) _
 rw [← hW4]
 clear hW4
 replace X2:=X2.keep hb4
 replace X6:=X6.keep hb4
 replace X8:=X8.keep hb4
 have HP4:=Lib.hid (HP3.out.mono hb4)
 replace Bw:=bT Bw hb4
 clear hb4
 try clear X2l
 try clear X2a
 try clear X2b
 try clear X2c
 obtain ⟨X2l,X2a,X2b,X2c,-,-,-⟩:=X2.facts3
 try clear X6l
 try clear X6a
 try clear X6b
 try clear X6c
 try clear X6d
 try clear X6e
 try clear X6f
 obtain ⟨X6l,X6a,X6b,X6c,X6d,X6e,X6f,-,-,-,-,-,-⟩:=X6.facts6
 try clear X8l
 try clear X8a
 try clear X8b
 try clear X8c
 obtain ⟨X8l,X8a,X8b,X8c,-,-,-⟩:=X8.facts3
 obtain ⟨X10l,X10a,X10b,X10c,-,-,-⟩:=X10.facts3
 go_cut [41] (fun u wx=>u=.bool (!(s && (s1 && s2)))∧wx=W4)
 case first =>
  cases s<;>cases s1<;>cases s2
  all_goals
   go_wp2_with fail
   go_meet
   case rel => exact ⟨rfl,rfl⟩
 case rest =>
  obtain ⟨rfl,rfl⟩:=hcut
  cases hsb:(s && (s1 && s2))
  case false =>
   have hf:=Lib.hid (show q=none by
    rw [← Hq.out,pathOf,Hr.out]
    cases r with
    | none=>rfl
    | some a0 =>
     have h1:=Hs.out
     have h2:=Ha.out
     simp only [Option.isSome_some,Option.getD_some] at h1 h2
     subst h1 h2
     simp only [hasEnds,Hs1.out,Hs2.out]
     simpa using hsb)
   clear hsb
   go_wp2_with fail
   go_ret2
   exact ⟨none,0,by rw [hf.out];rfl,Bw,by rw [hf.out];exact Own.nil _ _ _ _ _⟩
  case true =>
   have hsb2:s=true∧s1=true∧s2=true:=by simpa using hsb
   have hf:=Lib.hid (show q=some (n1.pt::(a.via++[n2.pt]))∧a.via.length≤1048576 by
    rw [← Hq.out,pathOf,Hr.out]
    cases r with
    | none=>have h1:=Hs.out;rw [hsb2.1] at h1;cases h1
    | some a0 =>
     have h2:=Ha.out
     simp only [Option.getD_some] at h2
     subst h2
     refine ⟨?_,HSh.out _ (findAr_mem Hr.out)⟩
     simp only [hasEnds,Hs1.out,Hs2.out,hsb2.2.1,hsb2.2.2,Bool.and_self,if_true,pathS,nodeAt,Hn1.out,Hn2.out])
   clear hsb hsb2
   go_wp2_with fail
   have hlen:=Lib.hid hf.out.2
   have hBa:Below w.heap.size w (((wc.alloc (.cells #[.int .i64 n1.pt.x,.int .i64 n1.pt.y] 36)).alloc (.cells #[.int .i64 n2.pt.x,.int .i64 n2.pt.y] 36)).alloc (.cells #[.slice (some ⟨wc.heap.size,0,none⟩) 1 1,.slice A1 a.via.length c1,.slice (some ⟨wc.heap.size+1,0,none⟩) 1 1] 39)):=bA (bA (bA Bw _) _) _
   refine (Concat_pt_spec _ [⟨[n1.pt],some ⟨wc.heap.size,0,none⟩,1⟩,⟨a.via,A1,c1⟩,⟨[n2.pt],some ⟨wc.heap.size+1,0,none⟩,1⟩] _ (Sl.lit (n:=3) (Blk.made (by simp) _ _) rfl (le_maxLen (by omega))) ?_ (by simp) (by simp) ?_).mono ?_
   ·
    intro k hk
    have hk:k<3:=hk
    rcases k with _ | _ | _ | k
    · exact Pts.one (((Blk.made rfl _ _).alloc _).alloc _)
    · exact HP4.out.mono (bA (bA (bA (bR wc) _) _) _)
    · exact Pts.one ((Blk.made (by simp) _ _).alloc _)
    · omega
   ·
    have:=hlen.out
    simp only [List.flatMap_cons,List.flatMap_nil,List.length_append,List.length_cons,List.length_nil]
    omega
   rintro e w5 ⟨v5,rfl,hb5,hown⟩
   have Bz:=hBa.size
   have ho:=hown.mono_base (b':=w.heap.size) Bz
   have B5:=bT hBa hb5
   simp only [List.flatMap_cons,List.flatMap_nil,List.append_nil,List.cons_append,List.nil_append] at ho
   have hf1:=hf.out.1
   generalize n1.pt::(a.via++[n2.pt])=PL at ho hf1
   have Hf1:=Lib.hid hf1
   obtain ⟨A5,c5,rfl,-⟩:=Own.sl ho
   have Ho:=Lib.hid ho
   have HB5:=Lib.hid B5
   clear hown ho B5 Bz hb5 hBa hf1
   go_wp2_with fail
   go_ret2
   exact ⟨A5,c5,by rw [Hf1.out];rfl,HB5.out,by rw [Hf1.out];exact Ho.out⟩
end Go.Proofs.YtnhdmghgjngcaaaGreat
