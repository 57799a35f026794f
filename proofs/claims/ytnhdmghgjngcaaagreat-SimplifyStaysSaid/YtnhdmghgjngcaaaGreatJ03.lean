import Derived.Test.YtnhdmghgjngcaaaGreatJ02
import Derived.Test.YtnhdmghgjngcaaaGreatGE
set_option linter.unusedSimpArgs false
set_option linter.unusedVariables false
namespace Go.Proofs.YtnhdmghgjngcaaaGreat

theorem sq_nn (a:Int):0≤a*a:=by
 rcases Int.le_total 0 a with h | h
 · exact Int.mul_nonneg h h
 · exact Int.mul_nonneg_of_nonpos_of_nonpos h h
theorem le0_iff {a b:Int}:a*b≤0↔(0≤a∧b≤0)∨(a≤0∧0≤b):=by
 constructor
 ·
  intro h
  by_cases ha:a=0
  · omega
  by_cases hp:0<a
  ·
   left;refine ⟨by omega,?_⟩
   by_cases hb:0<b
   · have:=Int.mul_pos hp hb;omega
   · omega
  ·
   right;refine ⟨by omega,?_⟩
   by_cases hb:b<0
   · have:=Int.mul_pos_of_neg_of_neg (show a<0 by omega) hb;omega
   · omega
 ·
  rintro (⟨ha,hb⟩ | ⟨ha,hb⟩)
  · exact Int.mul_nonpos_of_nonneg_of_nonpos ha hb
  · exact Int.mul_nonpos_of_nonpos_of_nonneg ha hb
theorem btw {p a b:Int}:(p-a)*(p-b)≤0↔min a b≤p∧p≤max a b:=by
 rw [le0_iff];omega
theorem dot_parts {ux uy vx vy:Int} (hc:ux*vy=uy*vx):ux*vx+uy*vy≤0↔ux*vx≤0∧uy*vy≤0:=by
 constructor
 ·
  intro h
  have hp:0≤(ux*vx)*(uy*vy):=by
   have e:(ux*vx)*(uy*vy)=(ux*vy)*(ux*vy):=by grind
   rw [e]
   exact sq_nn _
  by_cases h1:0<ux*vx
  · have:=Int.mul_neg_of_pos_of_neg h1 (show uy*vy<0 by omega);omega
  ·
   by_cases h2:0<uy*vy
   · have:=Int.mul_neg_of_neg_of_pos (show ux*vx<0 by omega) h2;omega
   · omega
 · omega
theorem parallel {ux uy vx vy wx wy:Int} (h:¬ (ux=0∧uy=0)) (h1:ux*vy-uy*vx=0) (h2:ux*wy-uy*wx=0):vx*wy-vy*wx=0:=by
 have e1:ux*(vx*wy-vy*wx)=0:=by grind
 have e2:uy*(vx*wy-vy*wx)=0:=by grind
 rcases Int.mul_eq_zero.1 e1 with h3 | h3
 ·
  rcases Int.mul_eq_zero.1 e2 with h4 | h4
  · exact absurd ⟨h3,h4⟩ h
  · exact h4
 · exact h3

theorem onS_eq (a b p:Pt):onS a b p=ronS a b p:=by
 unfold onS ronS
 cases nears [a,b,p]
 · rfl
 have hc:crossS a b a p=tw a b p:=rfl
 rw [hc]
 by_cases h:tw a b p=0
 ·
  simp only [h,decide_true,Bool.true_and,Bool.and_assoc]
  rw [Bool.eq_iff_iff]
  simp only [Bool.and_eq_true,decide_eq_true_eq]
  unfold dotS
  rw [dot_parts (by unfold tw at h;grind),btw,btw]
  omega
 · simp [h]

theorem bef_iff (a b:Pt):bef a b=true↔a.x<b.x∨(a.x=b.x∧a.y<b.y):=by simp [bef]
theorem bef_irr (a:Pt):bef a a=false:=by rw [← Bool.not_eq_true,bef_iff];omega
theorem bef_asym {a b:Pt} (h:bef a b=true):bef b a=false:=by
 rw [← Bool.not_eq_true,bef_iff];rw [bef_iff] at h;omega
theorem bef_tri {a b:Pt} (h:bef a b=false) (h':bef b a=false):a=b:=by
 rw [← Bool.not_eq_true,bef_iff] at h h'
 rw [Pt.ext_iff'];omega
def lo (a b:Pt):Pt:=if bef b a then b else a
def hi (a b:Pt):Pt:=if bef b a then a else b
theorem lo_comm (a b:Pt):lo a b=lo b a:=by
 unfold lo
 cases h:bef b a<;>cases h':bef a b<;>simp
 · exact bef_tri h' h
 · exact absurd (bef_asym h) (by simp [h'])
theorem hi_comm (a b:Pt):hi a b=hi b a:=by
 unfold hi
 cases h:bef b a<;>cases h':bef a b<;>simp
 · exact (bef_tri h' h).symm
 · exact absurd (bef_asym h) (by simp [h'])
theorem sharedS_def (a b c d:Pt):sharedS a b c d=if hi (lo a b) (lo c d)=lo (hi a b) (hi c d) then 1 else if bef (hi (lo a b) (lo c d)) (lo (hi a b) (hi c d)) then 2 else 0:=by
 have e1:∀ p q:Pt,(if bef p q then q else p)=hi p q:=fun p q=>by
  unfold hi;cases h:bef q p<;>cases h':bef p q<;>simp
  · exact bef_tri h' h
  · exact absurd (bef_asym h) (by simp [h'])
 have e2:∀ p q:Pt,(if bef q p then q else p)=lo p q:=fun p q=>rfl
 have e3:∀ p q:Pt,(if bef q p then p else q)=hi p q:=fun p q=>rfl
 unfold sharedS
 simp only [e2,e3,e1]
 rw [hi_comm (lo c d) (lo a b)]
theorem sharedS_comm (a b c d:Pt):sharedS a b c d=sharedS c d a b:=by
 rw [sharedS_def a b c d,hi_comm (lo a b) (lo c d),lo_comm (hi a b) (hi c d),← sharedS_def]
theorem sharedS_flip (a b c d:Pt):sharedS a b c d=sharedS b a c d:=by
 rw [sharedS_def,sharedS_def,lo_comm a b,hi_comm a b]

theorem lo_hi (c d:Pt):(lo c d=c∧hi c d=d∧bef d c=false)∨(lo c d=d∧hi c d=c∧bef d c=true):=by
 unfold lo hi
 cases h:bef d c<;>simp

theorem box_lex (c d a:Pt) (hcd:c≠d) (h:tw c d a=0) :
  (min c.x d.x≤a.x∧a.x≤max c.x d.x∧min c.y d.y≤a.y∧a.y≤max c.y d.y)↔(bef a (lo c d)=false∧bef (hi c d) a=false):=by
 have hne:¬ (c.x=d.x∧c.y=d.y):=fun e=>hcd (Pt.ext_iff'.2 e)
 unfold tw at h
 have hp:(a.x-c.x)*(a.y-d.y)=(a.y-c.y)*(a.x-d.x):=by grind
 have hs:0≤((a.x-c.x)*(a.x-d.x))*((a.y-c.y)*(a.y-d.y)):=by
  have e:((a.x-c.x)*(a.x-d.x))*((a.y-c.y)*(a.y-d.y))=((a.x-c.x)*(a.y-d.y))*((a.x-c.x)*(a.y-d.y)):=by grind
  rw [e];exact sq_nn _
 have b1:(a.x-c.x)*(a.x-d.x)≤0↔min c.x d.x≤a.x∧a.x≤max c.x d.x:=btw
 have b2:(a.y-c.y)*(a.y-d.y)≤0↔min c.y d.y≤a.y∧a.y≤max c.y d.y:=btw
 have k1:a.x=c.x→(d.x-c.x)*(a.y-c.y)=0:=fun e=>by rw [e] at h;grind
 have k2:a.x=d.x→(d.x-c.x)*(a.y-d.y)=0:=fun e=>by rw [e] at h;grind
 have k3:(a.x-c.x)*(a.x-d.x)<0→(a.y-c.y)*(a.y-d.y)≤0:=fun e=>by
  by_cases hy:0<(a.y-c.y)*(a.y-d.y)
  · have:=Int.mul_neg_of_neg_of_pos e hy;omega
  · omega
 rw [← Bool.not_eq_true,← Bool.not_eq_true,bef_iff,bef_iff]
 by_cases hx:c.x=d.x
 ·
  have hax:a.x=c.x∨¬ a.x=c.x:=Classical.em _
  have hz:a.x=c.x:=by
   have:(d.y-c.y)*(a.x-c.x)=0:=by rw [hx] at h ⊢;grind
   rcases Int.mul_eq_zero.1 this with e | e
   · exact absurd ⟨hx,by omega⟩ hne
   · omega
  have hl:=lo_hi c d
  rcases hl with ⟨e1,e2,e3⟩ | ⟨e1,e2,e3⟩<;>rw [e1,e2]
  · rw [← Bool.not_eq_true,bef_iff] at e3;omega
  · rw [bef_iff] at e3;omega
 ·
  have k1':a.x=c.x→a.y=c.y:=fun e=>by
   rcases Int.mul_eq_zero.1 (k1 e) with f | f<;>omega
  have k2':a.x=d.x→a.y=d.y:=fun e=>by
   rcases Int.mul_eq_zero.1 (k2 e) with f | f<;>omega
  have k3':(min c.x d.x<a.x∧a.x<max c.x d.x)→min c.y d.y≤a.y∧a.y≤max c.y d.y:=fun e=>by
   refine b2.1 (k3 ?_)
   rcases Int.lt_or_gt_of_ne hx with f | f
   · exact Int.mul_neg_of_pos_of_neg (by omega) (by omega)
   · exact Int.mul_neg_of_neg_of_pos (by omega) (by omega)
  have hl:=lo_hi c d
  clear h hp hs b1 b2 k1 k2 k3
  rcases hl with ⟨e1,e2,e3⟩ | ⟨e1,e2,e3⟩<;>rw [e1,e2]
  · rw [← Bool.not_eq_true,bef_iff] at e3;omega
  · rw [bef_iff] at e3;omega

theorem shared_pt (c d a:Pt) (hcd:c≠d) (h:tw c d a=0):sharedS a a c d=if (min c.x d.x≤a.x∧a.x≤max c.x d.x∧min c.y d.y≤a.y∧a.y≤max c.y d.y) then 1 else 0:=by
 have hl:lo a a=a:=by simp [lo]
 have hh:hi a a=a:=by simp [hi]
 have hb:=box_lex c d a hcd h
 rw [sharedS_def,hl,hh]
 generalize hC:lo c d=C at *
 generalize hD:hi c d=D at *
 have hCD:bef D C=false:=by
  rcases lo_hi c d with ⟨e1,e2,e3⟩ | ⟨e1,e2,e3⟩<;>rw [← hC,← hD,e1,e2]
  · exact e3
  · exact bef_asym e3
 by_cases hin:bef a C=false∧bef D a=false
 ·
  rw [if_pos (hb.2 hin)]
  have e1:hi a C=a:=by
   unfold hi;cases h':bef C a<;>simp
   exact (bef_tri hin.1 h').symm
  have e2:lo a D=a:=by unfold lo;rw [hin.2];rfl
  rw [e1,e2];simp
 ·
  rw [if_neg (fun e=>hin (hb.1 e))]
  cases h1:bef a C
  ·
   have h2:bef D a=true:=by simpa [h1] using hin
   have e2:lo a D=D:=by unfold lo;rw [h2];rfl
   have e1:hi a C=a:=by
    unfold hi;cases h':bef C a<;>simp
    exact (bef_tri h1 h').symm
   rw [e1,e2,if_neg (fun e=>by rw [e,bef_irr] at h2;cases h2),bef_asym h2];rfl
  ·
   have e1:hi a C=C:=by unfold hi;rw [bef_asym h1];rfl
   have h2:bef D a=false:=by
    rw [← Bool.not_eq_true,bef_iff] at hCD ⊢
    rw [bef_iff] at h1
    omega
   have e2:lo a D=a:=by unfold lo;rw [h2];rfl
   rw [e1,e2,if_neg (fun e=>by rw [e,bef_irr] at h1;cases h1),bef_asym h1];rfl

theorem Pt.sub_ne {a b:Pt} (h:a≠b):¬ (b.x-a.x=0∧b.y-a.y=0):=fun e=>h (Pt.ext_iff'.2 ⟨by omega,by omega⟩)

theorem sideS_zero {a b c:Pt} (h:nears [a,b,c]=true):sideS a b c=0↔tw a b c=0:=by
 unfold sideS twS
 rw [if_pos h]
 split
 · omega
 · split<;>omega
theorem side_prod {a b c d e f:Pt} (h1:nears [a,b,c]=true) (h2:nears [d,e,f]=true):sideS a b c*sideS d e f≤0↔(0≤tw a b c∧tw d e f≤0)∨(tw a b c≤0∧0≤tw d e f):=by
 unfold sideS twS
 rw [if_pos h1,if_pos h2]
 generalize tw a b c=p
 generalize tw d e f=q
 split<;>split<;>(try split)<;>(try split)<;>simp<;>omega

theorem meetS_eq (a b c d:Pt):meetS a b c d=rmeetS a b c d:=by
 unfold meetS rmeetS
 by_cases hn:nears [a,b,c,d]=true
 case neg => rw [if_neg hn,if_neg hn]
 rw [if_pos hn,if_pos hn]
 have hn':near1 a=true∧near1 b=true∧near1 c=true∧near1 d=true:=by simpa [nears] using hn
 obtain ⟨na,nb,nc,nd⟩:=hn'
 have nn:∀ p q r:Pt,near1 p=true→near1 q=true→near1 r=true→nears [p,q,r]=true:=fun p q r h1 h2 h3=>by simp [nears,h1,h2,h3]
 unfold rmeetN
 by_cases hab:a=b
 ·
  subst hab
  rw [if_pos rfl]
  have c0:crossS a a c d=0:=by unfold crossS;grind
  have c1:crossS a a a c=0:=by unfold crossS;grind
  have c2:crossS a a a d=0:=by unfold crossS;grind
  by_cases hcd:c=d
  ·
   subst hcd
   have hon:onS c c a=decide (a=c):=by
    unfold onS tw
    rw [nn c c a nc nc na,Bool.eq_iff_iff]
    simp only [Bool.and_eq_true,decide_eq_true_eq,Bool.true_and,Pt.ext_iff']
    grind
   rw [hon]
   by_cases hac:a=c
   ·
    subst hac
    have hl:lo a a=a:=by simp [lo]
    have hh:hi a a=a:=by simp [hi]
    have:sharedS a a a a=1:=by rw [sharedS_def,hl,hh,hl];simp
    simp [c0,this]
   · simp [hac]
  ·
   rw [if_neg (show ¬ (a=a∧c=d∧¬ a=c) from fun e=>hcd e.2.1),if_pos c0]
   have ct:crossS c d c a=tw c d a:=rfl
   unfold onS
   rw [nn c d a nc nd na]
   by_cases ht:tw c d a=0
   ·
    rw [if_pos (show crossS a a a c=0∧crossS a a a d=0∧crossS c d c a=0∧crossS c d c a=0 from ⟨c1,c2,ht,ht⟩),shared_pt c d a hcd ht]
    simp only [ht,decide_true,Bool.true_and,Bool.and_eq_true,decide_eq_true_eq,and_assoc]
   ·
    rw [if_neg (show ¬ (crossS a a a c=0∧crossS a a a d=0∧crossS c d c a=0∧crossS c d c a=0) from fun e=>ht e.2.2.1)]
    simp [ht]
 rw [if_neg hab]
 by_cases hcd:c=d
 ·
  subst hcd
  rw [if_pos rfl]
  have c0:crossS a b c c=0:=by unfold crossS;grind
  have c1:crossS c c c a=0:=by unfold crossS;grind
  have c2:crossS c c c b=0:=by unfold crossS;grind
  rw [if_neg (show ¬ (a=b∧c=c∧¬ a=c) from fun e=>hab e.1),if_pos c0]
  unfold onS
  rw [nn a b c na nb nc]
  have ct:crossS a b a c=tw a b c:=rfl
  by_cases ht:tw a b c=0
  ·
   rw [if_pos (show crossS a b a c=0∧crossS a b a c=0∧crossS c c c a=0∧crossS c c c b=0 from ⟨ht,ht,c1,c2⟩),sharedS_comm,shared_pt a b c hab ht]
   simp only [ht,decide_true,Bool.true_and,Bool.and_eq_true,decide_eq_true_eq,and_assoc]
  ·
   rw [if_neg (show ¬ (crossS a b a c=0∧crossS a b a c=0∧crossS c c c a=0∧crossS c c c b=0) from fun e=>ht e.1)]
   simp [ht]
 rw [if_neg hcd,if_neg (show ¬ (a=b∧c=d∧¬ a=c) from fun e=>hab e.1)]
 have e1:crossS a b a c=tw a b c:=rfl
 have e2:crossS a b a d=tw a b d:=rfl
 have e0:crossS a b c d=tw a b d-tw a b c:=by unfold crossS tw;grind
 have es:crossS a c c d=tw c d a:=by unfold crossS tw;grind
 have es2:tw c d b=tw c d a-crossS a b c d:=by unfold crossS tw;grind
 have et:crossS a c a b=- tw a b c:=by unfold crossS tw;grind
 simp only [sideS_zero (nn a b c na nb nc),sideS_zero (nn a b d na nb nd)]
 by_cases hz:tw a b c=0∧tw a b d=0
 ·
  obtain ⟨z1,z2⟩:=hz
  have p1:crossS c d c a=0:=by
   unfold crossS
   refine parallel (Pt.sub_ne hab) ?_ ?_
   · unfold tw at z1 z2;grind
   · unfold tw at z1 z2;grind
  have p2:crossS c d c b=0:=by
   unfold crossS
   refine parallel (Pt.sub_ne hab) ?_ ?_
   · unfold tw at z1 z2;grind
   · unfold tw at z1 z2;grind
  rw [if_pos (show tw a b c=0∧tw a b d=0 from ⟨z1,z2⟩),if_pos (show crossS a b c d=0 by rw [e0,z1,z2];rfl),if_pos (show crossS a b a c=0∧crossS a b a d=0∧crossS c d c a=0∧crossS c d c b=0 from ⟨z1,z2,p1,p2⟩)]
 ·
  rw [if_neg hz]
  simp only [side_prod (nn a b c na nb nc) (nn a b d na nb nd),side_prod (nn c d a nc nd na) (nn c d b nc nd nb),es2,et,es]
  generalize crossS a b c d=n at *
  generalize tw c d a=s at *
  by_cases hn0:n=0
  ·
   rw [if_pos hn0,if_neg (show ¬ (crossS a b a c=0∧crossS a b a d=0∧crossS c d c a=0∧crossS c d c b=0) from fun e=>hz ⟨e.1,e.2.1⟩),if_neg]
   omega
  ·
   rw [if_neg hn0]
   by_cases hneg:n<0
   ·
    rw [if_pos hneg]
    have:(((0≤tw a b c∧tw a b d≤0∨tw a b c≤0∧0≤tw a b d)∧(0≤s∧s-n≤0∨s≤0∧0≤s-n))↔(0≤-s∧-s≤-n∧0≤- -tw a b c∧- -tw a b c≤-n)):=by omega
    simp only [this]
   ·
    rw [if_neg hneg]
    have:(((0≤tw a b c∧tw a b d≤0∨tw a b c≤0∧0≤tw a b d)∧(0≤s∧s-n≤0∨s≤0∧0≤s-n))↔(0≤s∧s≤n∧0≤-tw a b c∧-tw a b c≤n)):=by omega
    simp only [this]
end Go.Proofs.YtnhdmghgjngcaaaGreat
namespace Go.Proofs.YtnhdmghgjngcaaaGreat
open Go.RowKit

structure Sg where
 arc:Ar
 i:Nat
 n:Nat
 a:Pt
 b:Pt
structure SV where
 a:Option Addr
 n:Nat
 c:Nat
def endsS (a:Ar) (id:Int):Bool:=a.fr == id || a.dst == id
def apartS (s t:Sg):Bool:=if t.i=s.i+1∨(s.i=0∧t.i+1=t.n∧s.arc.fr=s.arc.dst) then rmeetS s.a s.b t.a t.b == 1 else rmeetS s.a s.b t.a t.b == 0
end Go.Proofs.YtnhdmghgjngcaaaGreat
