import Derived.Test.YtnhdmghgjngcaaaGreatGB
import Derived.Test.YtnhdmghgjngcaaaGreatJ03
import Derived.Test.YtnhdmghgjngcaaaGreatJ01
set_option linter.unusedSimpArgs false
set_option linter.unusedVariables false
namespace Go.Proofs.YtnhdmghgjngcaaaGreat
open Go.RowKit

def inB (b:Bx) (p:Pt):Bool:=decide (b.x0≤p.x∧p.x≤b.x1∧b.y0≤p.y∧p.y≤b.y1)
end Go.Proofs.YtnhdmghgjngcaaaGreat
namespace Go.Proofs.YtnhdmghgjngcaaaGreat
open Go.RowKit

def triBx (a b c:Pt):Bx:=⟨min (min a.x b.x) c.x,min (min a.y b.y) c.y,max (max a.x b.x) c.x,max (max a.y b.y) c.y⟩
def triS (a b c q:Pt):Bool:=inB (triBx a b c) q && (if sideS a b c=0 then onS a b q || (onS b c q || onS c a q)
 else decide (0≤sideS a b c*sideS a b q) && decide (0≤sideS a b c*sideS b c q) && decide (0≤sideS a b c*sideS c a q))
def witS (a b c q:Pt):Bool:=(onS a b q || onS b c q || onS c a q) || (decide (sideS a b q≠0) && decide (sideS a b q=sideS b c q) && decide (sideS b c q=sideS c a q))
theorem tw_sum (a b c q:Pt):tw a b q+tw b c q+tw c a q=tw a b c:=by unfold tw;grind
theorem sideS_near {a b c:Pt} (h:nears [a,b,c]=true):sideS a b c=if 0<tw a b c then 1 else if tw a b c<0 then -1 else 0:=by
 unfold sideS twS
 rw [if_pos h]
theorem sideS_far {a b c:Pt} (h:nears [a,b,c]=false):sideS a b c=0:=by
 unfold sideS twS
 simp [h]
theorem nears3_iff {a b c:Pt}:nears [a,b,c]=true↔near1 a=true∧near1 b=true∧near1 c=true:=by
 simp [nears]
theorem onS_iff {a b q:Pt} (h:nears [a,b,q]=true):onS a b q=true↔tw a b q=0∧min a.x b.x≤q.x∧q.x≤max a.x b.x∧min a.y b.y≤q.y∧q.y≤max a.y b.y:=by
 unfold onS
 rw [h]
 simp [and_assoc]
theorem mul_btw {d e t v:Int} (ht:0<t) (h:d*v=e*t) (h0:0≤v) (h1:v≤t):min 0 d≤e∧e≤max 0 d:=by
 by_cases hd:0≤d
 ·
  have p1:0≤d*v:=Int.mul_nonneg hd h0
  have p2:d*v≤d*t:=Int.mul_le_mul_of_nonneg_left h1 hd
  have q1:0≤e:=by
   by_cases c:0≤e
   · exact c
   · have:=Int.mul_neg_of_neg_of_pos (show e<0 by omega) ht;omega
  have q2:e≤d:=by
   by_cases c:e≤d
   · exact c
   · have:=Int.mul_lt_mul_of_pos_right (show d<e by omega) ht;omega
  omega
 ·
  have p1:d*v≤0:=Int.mul_nonpos_of_nonpos_of_nonneg (by omega) h0
  have p2:d*t≤d*v:=by
   have:=Int.mul_le_mul_of_nonpos_left (show d≤0 by omega) h1
   omega
  have q1:e≤0:=by
   by_cases c:e≤0
   · exact c
   · have:=Int.mul_pos (show 0<e by omega) ht;omega
  have q2:d≤e:=by
   by_cases c:d≤e
   · exact c
   · have:=Int.mul_lt_mul_of_pos_right (show e<d by omega) ht;omega
  omega
theorem btw_mul {d e t v:Int} (ht:0<t) (hd:d≠0) (h:d*v=e*t) (h0:min 0 d≤e) (h1:e≤max 0 d):0≤v∧v≤t:=by
 by_cases hp:0<d
 ·
  have p1:0≤e*t:=Int.mul_nonneg (by omega) (by omega)
  have p2:e*t≤d*t:=Int.mul_le_mul_of_nonneg_right (by omega) (by omega)
  rw [← h] at p1 p2
  exact ⟨Int.nonneg_of_mul_nonneg_right p1 hp,Int.le_of_mul_le_mul_left p2 hp⟩
 ·
  have hn:d<0:=by omega
  have p1:e*t≤0:=Int.mul_nonpos_of_nonpos_of_nonneg (by omega) (by omega)
  have p2:d*t≤e*t:=Int.mul_le_mul_of_nonneg_right (by omega) (by omega)
  rw [← h] at p1 p2
  constructor
  ·
   by_cases c:0≤v
   · exact c
   · have:=Int.mul_pos_of_neg_of_neg hn (show v<0 by omega);omega
  ·
   by_cases c:v≤t
   · exact c
   · have:=Int.mul_lt_mul_of_neg_left (show t<v by omega) hn;omega
theorem seg_x (a b c q:Pt) (h:tw a b q=0):(b.x-a.x)*tw b c q=(b.x-q.x)*tw a b c:=by unfold tw at *;grind
theorem seg_y (a b c q:Pt) (h:tw a b q=0):(b.y-a.y)*tw b c q=(b.y-q.y)*tw a b c:=by unfold tw at *;grind
theorem on_side {a b c q:Pt} (ht:0<tw a b c) (h:tw a b q=0):(min a.x b.x≤q.x∧q.x≤max a.x b.x∧min a.y b.y≤q.y∧q.y≤max a.y b.y)↔0≤tw b c q∧0≤tw c a q:=by
 have hs:=tw_sum a b c q
 have ex:=seg_x a b c q h
 have ey:=seg_y a b c q h
 constructor
 ·
  rintro ⟨h1,h2,h3,h4⟩
  have:0≤tw b c q∧tw b c q≤tw a b c:=by
   by_cases hx:b.x-a.x=0
   ·
    by_cases hy:b.y-a.y=0
    ·
     exfalso
     have:tw a b c=0:=by unfold tw;rw [hx,hy];simp
     omega
    · exact btw_mul ht hy ey (by omega) (by omega)
   · exact btw_mul ht hx ex (by omega) (by omega)
  omega
 ·
  rintro ⟨h1,h2⟩
  have b1:=mul_btw ht ex h1 (by omega)
  have b2:=mul_btw ht ey h1 (by omega)
  omega
theorem bary_x (a b c q:Pt):tw a b c*q.x=tw b c q*a.x+tw c a q*b.x+tw a b q*c.x:=by unfold tw;grind
theorem bary_y (a b c q:Pt):tw a b c*q.y=tw b c q*a.y+tw c a q*b.y+tw a b q*c.y:=by unfold tw;grind
theorem bary_le {t u v z a b c q m:Int} (ht:0<t) (hs:u+v+z=t) (hu:0≤u) (hv:0≤v) (hz:0≤z) (h:t*q=v*a+z*b+u*c) (ha:a≤m) (hb:b≤m) (hc:c≤m):q≤m:=by
 have h1:=Int.mul_le_mul_of_nonneg_left ha hv
 have h2:=Int.mul_le_mul_of_nonneg_left hb hz
 have h3:=Int.mul_le_mul_of_nonneg_left hc hu
 have e:v*m+z*m+u*m=t*m:=by rw [← hs];grind
 exact Int.le_of_mul_le_mul_left (show t*q≤t*m by omega) ht
theorem bary_ge {t u v z a b c q m:Int} (ht:0<t) (hs:u+v+z=t) (hu:0≤u) (hv:0≤v) (hz:0≤z) (h:t*q=v*a+z*b+u*c) (ha:m≤a) (hb:m≤b) (hc:m≤c):m≤q:=by
 have h1:=Int.mul_le_mul_of_nonneg_left ha hv
 have h2:=Int.mul_le_mul_of_nonneg_left hb hz
 have h3:=Int.mul_le_mul_of_nonneg_left hc hu
 have e:v*m+z*m+u*m=t*m:=by rw [← hs];grind
 exact Int.le_of_mul_le_mul_left (show t*m≤t*q by omega) ht
theorem in_box {a b c q:Pt} (ht:0<tw a b c) (hu:0≤tw a b q) (hv:0≤tw b c q) (hz:0≤tw c a q):inB (triBx a b c) q=true:=by
 have hs:=tw_sum a b c q
 unfold inB triBx
 simp only [Bool.and_eq_true,decide_eq_true_eq]
 refine ⟨?_,?_,?_,?_⟩
 · exact bary_ge ht hs hu hv hz (bary_x a b c q) (by omega) (by omega) (by omega)
 · exact bary_le ht hs hu hv hz (bary_x a b c q) (by omega) (by omega) (by omega)
 · exact bary_ge ht hs hu hv hz (bary_y a b c q) (by omega) (by omega) (by omega)
 · exact bary_le ht hs hu hv hz (bary_y a b c q) (by omega) (by omega) (by omega)
theorem tri_left {a b c q:Pt} (na:near1 a=true) (nb:near1 b=true) (nc:near1 c=true) (nq:near1 q=true) (ht:0<tw a b c) :
  (witS a b c q=true↔0≤tw a b q∧0≤tw b c q∧0≤tw c a q):=by
 have hs:=tw_sum a b c q
 have o1:=onS_iff (nears3_iff.2 ⟨na,nb,nq⟩)
 have o2:=onS_iff (nears3_iff.2 ⟨nb,nc,nq⟩)
 have o3:=onS_iff (nears3_iff.2 ⟨nc,na,nq⟩)
 have r1:tw b c a=tw a b c:=by unfold tw;grind
 have r2:tw c a b=tw a b c:=by unfold tw;grind
 have s1:tw a b q=0→_:=fun h=>on_side ht h
 have s2:tw b c q=0→_:=fun h=>on_side (a:=b) (b:=c) (c:=a) (by omega) h
 have s3:tw c a q=0→_:=fun h=>on_side (a:=c) (b:=a) (c:=b) (by omega) h
 unfold witS
 rw [Bool.or_eq_true,Bool.or_eq_true,Bool.or_eq_true,o1,o2,o3,sideS_near (nears3_iff.2 ⟨na,nb,nq⟩),sideS_near (nears3_iff.2 ⟨nb,nc,nq⟩),sideS_near (nears3_iff.2 ⟨nc,na,nq⟩)]
 simp only [Bool.and_eq_true,decide_eq_true_eq]
 clear o1 o2 o3 r1 r2 na nb nc nq
 generalize tw a b c=t at *
 generalize tw a b q=u at *
 generalize tw b c q=v at *
 generalize tw c a q=z at *
 constructor
 ·
  rintro (((⟨h,hb⟩ | ⟨h,hb⟩) | ⟨h,hb⟩) | h)
  · have:=(s1 h).1 hb;omega
  · have:=(s2 h).1 hb;omega
  · have:=(s3 h).1 hb;omega
  ·
   obtain ⟨⟨h1,h2⟩,h3⟩:=h
   repeat' split at h1
   all_goals repeat' split at h2
   all_goals repeat' split at h3
   all_goals omega
 ·
  rintro ⟨h1,h2,h3⟩
  by_cases c1:u=0
  · exact .inl (.inl (.inl ⟨c1,(s1 c1).2 ⟨h2,h3⟩⟩))
  by_cases c2:v=0
  · exact .inl (.inl (.inr ⟨c2,(s2 c2).2 ⟨h3,h1⟩⟩))
  by_cases c3:z=0
  · exact .inl (.inr ⟨c3,(s3 c3).2 ⟨h1,h2⟩⟩)
  refine .inr ?_
  rw [if_pos (by omega),if_pos (by omega),if_pos (by omega)]
  simp
theorem onS_swap' (a b q:Pt):onS b a q=onS a b q:=by
 unfold onS
 rw [Bool.eq_iff_iff]
 have e:tw b a q=-tw a b q:=by unfold tw;grind
 rw [e]
 simp only [nears,List.all_cons,List.all_nil,Bool.and_eq_true,decide_eq_true_eq]
 grind
theorem sideS_swap' (a b q:Pt):sideS b a q=-sideS a b q:=by
 unfold sideS twS
 have e:tw b a q=-tw a b q:=by unfold tw;grind
 have n:nears [b,a,q]=nears [a,b,q]:=by simp only [nears,List.all_cons,List.all_nil];grind
 rw [e,n]
 split<;>(repeat' split)<;>omega
theorem witS_swap (a b c q:Pt):witS b a c q=witS a b c q:=by
 unfold witS
 rw [onS_swap' a b q,onS_swap' c a q,onS_swap' b c q,sideS_swap' a b q,sideS_swap' c a q,sideS_swap' b c q]
 rw [Bool.eq_iff_iff]
 simp only [Bool.or_eq_true,Bool.and_eq_true,decide_eq_true_eq]
 constructor
 ·
  rintro (((h | h) | h) | h)
  · exact .inl (.inl (.inl h))
  · exact .inl (.inr h)
  · exact .inl (.inl (.inr h))
  · exact .inr (by omega)
 ·
  rintro (((h | h) | h) | h)
  · exact .inl (.inl (.inl h))
  · exact .inl (.inr h)
  · exact .inl (.inl (.inr h))
  · exact .inr (by omega)
theorem inB_swap (a b c q:Pt):inB (triBx b a c) q=inB (triBx a b c) q:=by
 unfold inB triBx
 rw [Bool.eq_iff_iff]
 simp only [Bool.and_eq_true,decide_eq_true_eq]
 omega
theorem sideS_pos {a b c:Pt} (h:nears [a,b,c]=true) (ht:0<tw a b c):sideS a b c=1:=by rw [sideS_near h,if_pos ht]
theorem sideS_le {a b c:Pt} (h:nears [a,b,c]=true):0≤1*sideS a b c↔0≤tw a b c:=by
 rw [sideS_near h]
 split
 · omega
 · split<;>omega
theorem tri_eq_left {a b c q:Pt} (na:near1 a=true) (nb:near1 b=true) (nc:near1 c=true) (nq:near1 q=true) (ht:0<tw a b c):triS a b c q=witS a b c q:=by
 have hn:=nears3_iff.2 ⟨na,nb,nc⟩
 rw [Bool.eq_iff_iff,tri_left na nb nc nq ht]
 unfold triS
 rw [sideS_pos hn ht,if_neg (by omega)]
 simp only [Bool.and_eq_true,decide_eq_true_eq]
 rw [sideS_le (nears3_iff.2 ⟨na,nb,nq⟩),sideS_le (nears3_iff.2 ⟨nb,nc,nq⟩),sideS_le (nears3_iff.2 ⟨nc,na,nq⟩)]
 constructor
 · rintro ⟨-,⟨h1,h2⟩,h3⟩;exact ⟨h1,h2,h3⟩
 · rintro ⟨h1,h2,h3⟩;exact ⟨in_box ht h1 h2 h3,⟨h1,h2⟩,h3⟩
theorem triS_swap {a b c q:Pt} (h:sideS a b c≠0):triS b a c q=triS a b c q:=by
 unfold triS
 rw [inB_swap,sideS_swap' a b c,if_neg (by omega),if_neg h,sideS_swap' a b q,sideS_swap' c a q,sideS_swap' b c q]
 simp only [Int.neg_mul_neg]
 congr 1
 rw [Bool.and_assoc,Bool.and_assoc]
 congr 1
 exact Bool.and_comm _ _
theorem ptOk_near1 {p:Pt} (h:ptOk p=true):near1 p=true:=by
 unfold ptOk at h
 rw [near1_iff]
 simp only [Bool.and_eq_true,decide_eq_true_eq] at h
 omega
theorem on_in {a b c q:Pt} (h:onS a b q=true∨onS b c q=true∨onS c a q=true):inB (triBx a b c) q=true:=by
 unfold onS at h
 unfold inB triBx
 simp only [Bool.and_eq_true,decide_eq_true_eq] at h ⊢
 omega
theorem tri_eq {a b c:Pt} (ha:ptOk a=true) (hb:ptOk b=true) (hc:ptOk c=true) (q:Pt):triS a b c q=witS a b c q:=by
 have na:=ptOk_near1 ha
 have nb:=ptOk_near1 hb
 have nc:=ptOk_near1 hc
 have hn:=nears3_iff.2 ⟨na,nb,nc⟩
 by_cases nq:near1 q=true
 ·
  rcases Int.lt_trichotomy (tw a b c) 0 with h | h | h
  ·
   have e:tw b a c=-tw a b c:=by unfold tw;grind
   rw [← witS_swap,← triS_swap (by rw [sideS_near hn,if_neg (by omega),if_pos h];omega)]
   exact tri_eq_left nb na nc nq (by omega)
  ·
   have hs:=tw_sum a b c q
   have h0:sideS a b c=0:=by rw [sideS_near hn,h];rfl
   have k:(decide (sideS a b q≠0) && decide (sideS a b q=sideS b c q) && decide (sideS b c q=sideS c a q))=false:=by
    rw [sideS_near (nears3_iff.2 ⟨na,nb,nq⟩),sideS_near (nears3_iff.2 ⟨nb,nc,nq⟩),sideS_near (nears3_iff.2 ⟨nc,na,nq⟩)]
    rw [← Bool.not_eq_true]
    simp only [Bool.and_eq_true,decide_eq_true_eq]
    rintro ⟨⟨h1,h2⟩,h3⟩
    repeat' split at h1
    all_goals repeat' split at h2
    all_goals repeat' split at h3
    all_goals omega
   unfold triS witS
   rw [h0,if_pos rfl,k,Bool.or_false,Bool.or_assoc]
   cases hb:inB (triBx a b c) q with
   | true=>rfl
   | false =>
    rw [Bool.false_and]
    symm
    rw [← Bool.not_eq_true,Bool.or_eq_true,Bool.or_eq_true]
    intro h
    rw [on_in h] at hb
    cases hb
  · exact tri_eq_left na nb nc nq h
 ·
  have far:∀ u v,nears [u,v,q]=false:=fun u v=>by
   rw [← Bool.not_eq_true,nears3_iff]
   exact fun h=>nq h.2.2
  have hf:∀ u v,onS u v q=false:=fun u v=>by unfold onS;rw [far];rfl
  unfold triS witS
  rw [hf,hf,hf,sideS_far (far a b),sideS_far (far b c)]
  have:inB (triBx a b c) q=false:=by
   rw [← Bool.not_eq_true]
   intro h
   apply nq
   rw [near1_iff]
   unfold inB triBx at h
   unfold ptOk at ha hb hc
   simp only [Bool.and_eq_true,decide_eq_true_eq] at h ha hb hc
   omega
  rw [this]
  rfl
end Go.Proofs.YtnhdmghgjngcaaaGreat
namespace Go.Proofs.YtnhdmghgjngcaaaGreat

structure Cr where
 pos:Int
 arc:Int
 out:Int
instance:DecidableEq Cr:=fun a b =>
 if h:a.pos=b.pos∧a.arc=b.arc∧a.out=b.out then isTrue (by cases a;cases b;simp_all) else isFalse (by rintro rfl;simp at h)
end Go.Proofs.YtnhdmghgjngcaaaGreat
namespace Go.Proofs.YtnhdmghgjngcaaaGreat
open Go.RowKit

structure Pc where
 arc:Int
 path:List Pt
 enter:Int
 leave:Int
structure Prt where
 sheet:Int
 pieces:List Pc
 nodes:List Nd
section
variable {w w':World} {v:Value}
end
section
variable {w:World} {A:Option Addr}
end
end Go.Proofs.YtnhdmghgjngcaaaGreat
