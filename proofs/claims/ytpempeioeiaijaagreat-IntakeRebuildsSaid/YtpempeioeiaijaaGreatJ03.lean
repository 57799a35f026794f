import Derived.Test.YtpempeioeiaijaaGreatJ02
import Derived.Test.YtpempeioeiaijaaGreatGE
import Derived.Test.YtpempeioeiaijaaGreatGB
import Derived.Lib.AppendZerosOnto
set_option linter.unusedSimpArgs false
set_option linter.unusedVariables false
namespace Go.Proofs.YtpempeioeiaijaaGreat

theorem sq_nn (a:Int):0≤a*a:=by
 rcases Int.le_total 0 a with h | h
 · exact Int.mul_nonneg h h
 · exact Int.mul_nonneg_of_nonpos_of_nonpos h h
theorem le0_iff {a b:Int}:a*b≤0↔(0≤a∧b≤0)∨(a≤0∧0≤b):=by
 constructor
 ·
  intro h
  by_cases ha:a=0
  · omega
  by_cases hp:0<a
  ·
   left;refine ⟨by omega,?_⟩
   by_cases hb:0<b
   · have:=Int.mul_pos hp hb;omega
   · omega
  ·
   right;refine ⟨by omega,?_⟩
   by_cases hb:b<0
   · have:=Int.mul_pos_of_neg_of_neg (show a<0 by omega) hb;omega
   · omega
 ·
  rintro (⟨ha,hb⟩ | ⟨ha,hb⟩)
  · exact Int.mul_nonpos_of_nonneg_of_nonpos ha hb
  · exact Int.mul_nonpos_of_nonpos_of_nonneg ha hb
theorem btw {p a b:Int}:(p-a)*(p-b)≤0↔min a b≤p∧p≤max a b:=by
 rw [le0_iff];omega
theorem dot_parts {ux uy vx vy:Int} (hc:ux*vy=uy*vx):ux*vx+uy*vy≤0↔ux*vx≤0∧uy*vy≤0:=by
 constructor
 ·
  intro h
  have hp:0≤(ux*vx)*(uy*vy):=by
   have e:(ux*vx)*(uy*vy)=(ux*vy)*(ux*vy):=by grind
   rw [e]
   exact sq_nn _
  by_cases h1:0<ux*vx
  · have:=Int.mul_neg_of_pos_of_neg h1 (show uy*vy<0 by omega);omega
  ·
   by_cases h2:0<uy*vy
   · have:=Int.mul_neg_of_neg_of_pos (show ux*vx<0 by omega) h2;omega
   · omega
 · omega
theorem parallel {ux uy vx vy wx wy:Int} (h:¬ (ux=0∧uy=0)) (h1:ux*vy-uy*vx=0) (h2:ux*wy-uy*wx=0):vx*wy-vy*wx=0:=by
 have e1:ux*(vx*wy-vy*wx)=0:=by grind
 have e2:uy*(vx*wy-vy*wx)=0:=by grind
 rcases Int.mul_eq_zero.1 e1 with h3 | h3
 ·
  rcases Int.mul_eq_zero.1 e2 with h4 | h4
  · exact absurd ⟨h3,h4⟩ h
  · exact h4
 · exact h3

theorem onS_eq (a b p:Pt):onS a b p=ronS a b p:=by
 unfold onS ronS
 cases nears [a,b,p]
 · rfl
 have hc:crossS a b a p=tw a b p:=rfl
 rw [hc]
 by_cases h:tw a b p=0
 ·
  simp only [h,decide_true,Bool.true_and,Bool.and_assoc]
  rw [Bool.eq_iff_iff]
  simp only [Bool.and_eq_true,decide_eq_true_eq]
  unfold dotS
  rw [dot_parts (by unfold tw at h;grind),btw,btw]
  omega
 · simp [h]

theorem bef_iff (a b:Pt):bef a b=true↔a.x<b.x∨(a.x=b.x∧a.y<b.y):=by simp [bef]
theorem bef_irr (a:Pt):bef a a=false:=by rw [← Bool.not_eq_true,bef_iff];omega
theorem bef_asym {a b:Pt} (h:bef a b=true):bef b a=false:=by
 rw [← Bool.not_eq_true,bef_iff];rw [bef_iff] at h;omega
theorem bef_tri {a b:Pt} (h:bef a b=false) (h':bef b a=false):a=b:=by
 rw [← Bool.not_eq_true,bef_iff] at h h'
 rw [Pt.ext_iff'];omega
def lo (a b:Pt):Pt:=if bef b a then b else a
def hi (a b:Pt):Pt:=if bef b a then a else b
theorem lo_comm (a b:Pt):lo a b=lo b a:=by
 unfold lo
 cases h:bef b a<;>cases h':bef a b<;>simp
 · exact bef_tri h' h
 · exact absurd (bef_asym h) (by simp [h'])
theorem hi_comm (a b:Pt):hi a b=hi b a:=by
 unfold hi
 cases h:bef b a<;>cases h':bef a b<;>simp
 · exact (bef_tri h' h).symm
 · exact absurd (bef_asym h) (by simp [h'])
theorem sharedS_def (a b c d:Pt):sharedS a b c d=if hi (lo a b) (lo c d)=lo (hi a b) (hi c d) then 1 else if bef (hi (lo a b) (lo c d)) (lo (hi a b) (hi c d)) then 2 else 0:=by
 have e1:∀ p q:Pt,(if bef p q then q else p)=hi p q:=fun p q=>by
  unfold hi;cases h:bef q p<;>cases h':bef p q<;>simp
  · exact bef_tri h' h
  · exact absurd (bef_asym h) (by simp [h'])
 have e2:∀ p q:Pt,(if bef q p then q else p)=lo p q:=fun p q=>rfl
 have e3:∀ p q:Pt,(if bef q p then p else q)=hi p q:=fun p q=>rfl
 unfold sharedS
 simp only [e2,e3,e1]
 rw [hi_comm (lo c d) (lo a b)]
theorem sharedS_comm (a b c d:Pt):sharedS a b c d=sharedS c d a b:=by
 rw [sharedS_def a b c d,hi_comm (lo a b) (lo c d),lo_comm (hi a b) (hi c d),← sharedS_def]
theorem sharedS_flip (a b c d:Pt):sharedS a b c d=sharedS b a c d:=by
 rw [sharedS_def,sharedS_def,lo_comm a b,hi_comm a b]

theorem lo_hi (c d:Pt):(lo c d=c∧hi c d=d∧bef d c=false)∨(lo c d=d∧hi c d=c∧bef d c=true):=by
 unfold lo hi
 cases h:bef d c<;>simp

theorem box_lex (c d a:Pt) (hcd:c≠d) (h:tw c d a=0) :
  (min c.x d.x≤a.x∧a.x≤max c.x d.x∧min c.y d.y≤a.y∧a.y≤max c.y d.y)↔(bef a (lo c d)=false∧bef (hi c d) a=false):=by
 have hne:¬ (c.x=d.x∧c.y=d.y):=fun e=>hcd (Pt.ext_iff'.2 e)
 unfold tw at h
 have hp:(a.x-c.x)*(a.y-d.y)=(a.y-c.y)*(a.x-d.x):=by grind
 have hs:0≤((a.x-c.x)*(a.x-d.x))*((a.y-c.y)*(a.y-d.y)):=by
  have e:((a.x-c.x)*(a.x-d.x))*((a.y-c.y)*(a.y-d.y))=((a.x-c.x)*(a.y-d.y))*((a.x-c.x)*(a.y-d.y)):=by grind
  rw [e];exact sq_nn _
 have b1:(a.x-c.x)*(a.x-d.x)≤0↔min c.x d.x≤a.x∧a.x≤max c.x d.x:=btw
 have b2:(a.y-c.y)*(a.y-d.y)≤0↔min c.y d.y≤a.y∧a.y≤max c.y d.y:=btw
 have k1:a.x=c.x→(d.x-c.x)*(a.y-c.y)=0:=fun e=>by rw [e] at h;grind
 have k2:a.x=d.x→(d.x-c.x)*(a.y-d.y)=0:=fun e=>by rw [e] at h;grind
 have k3:(a.x-c.x)*(a.x-d.x)<0→(a.y-c.y)*(a.y-d.y)≤0:=fun e=>by
  by_cases hy:0<(a.y-c.y)*(a.y-d.y)
  · have:=Int.mul_neg_of_neg_of_pos e hy;omega
  · omega
 rw [← Bool.not_eq_true,← Bool.not_eq_true,bef_iff,bef_iff]
 by_cases hx:c.x=d.x
 ·
  have hax:a.x=c.x∨¬ a.x=c.x:=Classical.em _
  have hz:a.x=c.x:=by
   have:(d.y-c.y)*(a.x-c.x)=0:=by rw [hx] at h ⊢;grind
   rcases Int.mul_eq_zero.1 this with e | e
   · exact absurd ⟨hx,by omega⟩ hne
   · omega
  have hl:=lo_hi c d
  rcases hl with ⟨e1,e2,e3⟩ | ⟨e1,e2,e3⟩<;>rw [e1,e2]
  · rw [← Bool.not_eq_true,bef_iff] at e3;omega
  · rw [bef_iff] at e3;omega
 ·
  have k1':a.x=c.x→a.y=c.y:=fun e=>by
   rcases Int.mul_eq_zero.1 (k1 e) with f | f<;>omega
  have k2':a.x=d.x→a.y=d.y:=fun e=>by
   rcases Int.mul_eq_zero.1 (k2 e) with f | f<;>omega
  have k3':(min c.x d.x<a.x∧a.x<max c.x d.x)→min c.y d.y≤a.y∧a.y≤max c.y d.y:=fun e=>by
   refine b2.1 (k3 ?_)
   rcases Int.lt_or_gt_of_ne hx with f | f
   · exact Int.mul_neg_of_pos_of_neg (by omega) (by omega)
   · exact Int.mul_neg_of_neg_of_pos (by omega) (by omega)
  have hl:=lo_hi c d
  clear h hp hs b1 b2 k1 k2 k3
  rcases hl with ⟨e1,e2,e3⟩ | ⟨e1,e2,e3⟩<;>rw [e1,e2]
  · rw [← Bool.not_eq_true,bef_iff] at e3;omega
  · rw [bef_iff] at e3;omega

theorem shared_pt (c d a:Pt) (hcd:c≠d) (h:tw c d a=0):sharedS a a c d=if (min c.x d.x≤a.x∧a.x≤max c.x d.x∧min c.y d.y≤a.y∧a.y≤max c.y d.y) then 1 else 0:=by
 have hl:lo a a=a:=by simp [lo]
 have hh:hi a a=a:=by simp [hi]
 have hb:=box_lex c d a hcd h
 rw [sharedS_def,hl,hh]
 generalize hC:lo c d=C at *
 generalize hD:hi c d=D at *
 have hCD:bef D C=false:=by
  rcases lo_hi c d with ⟨e1,e2,e3⟩ | ⟨e1,e2,e3⟩<;>rw [← hC,← hD,e1,e2]
  · exact e3
  · exact bef_asym e3
 by_cases hin:bef a C=false∧bef D a=false
 ·
  rw [if_pos (hb.2 hin)]
  have e1:hi a C=a:=by
   unfold hi;cases h':bef C a<;>simp
   exact (bef_tri hin.1 h').symm
  have e2:lo a D=a:=by unfold lo;rw [hin.2];rfl
  rw [e1,e2];simp
 ·
  rw [if_neg (fun e=>hin (hb.1 e))]
  cases h1:bef a C
  ·
   have h2:bef D a=true:=by simpa [h1] using hin
   have e2:lo a D=D:=by unfold lo;rw [h2];rfl
   have e1:hi a C=a:=by
    unfold hi;cases h':bef C a<;>simp
    exact (bef_tri h1 h').symm
   rw [e1,e2,if_neg (fun e=>by rw [e,bef_irr] at h2;cases h2),bef_asym h2];rfl
  ·
   have e1:hi a C=C:=by unfold hi;rw [bef_asym h1];rfl
   have h2:bef D a=false:=by
    rw [← Bool.not_eq_true,bef_iff] at hCD ⊢
    rw [bef_iff] at h1
    omega
   have e2:lo a D=a:=by unfold lo;rw [h2];rfl
   rw [e1,e2,if_neg (fun e=>by rw [e,bef_irr] at h1;cases h1),bef_asym h1];rfl

theorem Pt.sub_ne {a b:Pt} (h:a≠b):¬ (b.x-a.x=0∧b.y-a.y=0):=fun e=>h (Pt.ext_iff'.2 ⟨by omega,by omega⟩)

theorem sideS_zero {a b c:Pt} (h:nears [a,b,c]=true):sideS a b c=0↔tw a b c=0:=by
 unfold sideS twS
 rw [if_pos h]
 split
 · omega
 · split<;>omega
theorem side_prod {a b c d e f:Pt} (h1:nears [a,b,c]=true) (h2:nears [d,e,f]=true):sideS a b c*sideS d e f≤0↔(0≤tw a b c∧tw d e f≤0)∨(tw a b c≤0∧0≤tw d e f):=by
 unfold sideS twS
 rw [if_pos h1,if_pos h2]
 generalize tw a b c=p
 generalize tw d e f=q
 split<;>split<;>(try split)<;>(try split)<;>simp<;>omega

theorem meetS_eq (a b c d:Pt):meetS a b c d=rmeetS a b c d:=by
 unfold meetS rmeetS
 by_cases hn:nears [a,b,c,d]=true
 case neg => rw [if_neg hn,if_neg hn]
 rw [if_pos hn,if_pos hn]
 have hn':near1 a=true∧near1 b=true∧near1 c=true∧near1 d=true:=by simpa [nears] using hn
 obtain ⟨na,nb,nc,nd⟩:=hn'
 have nn:∀ p q r:Pt,near1 p=true→near1 q=true→near1 r=true→nears [p,q,r]=true:=fun p q r h1 h2 h3=>by simp [nears,h1,h2,h3]
 unfold rmeetN
 by_cases hab:a=b
 ·
  subst hab
  rw [if_pos rfl]
  have c0:crossS a a c d=0:=by unfold crossS;grind
  have c1:crossS a a a c=0:=by unfold crossS;grind
  have c2:crossS a a a d=0:=by unfold crossS;grind
  by_cases hcd:c=d
  ·
   subst hcd
   have hon:onS c c a=decide (a=c):=by
    unfold onS tw
    rw [nn c c a nc nc na,Bool.eq_iff_iff]
    simp only [Bool.and_eq_true,decide_eq_true_eq,Bool.true_and,Pt.ext_iff']
    grind
   rw [hon]
   by_cases hac:a=c
   ·
    subst hac
    have hl:lo a a=a:=by simp [lo]
    have hh:hi a a=a:=by simp [hi]
    have:sharedS a a a a=1:=by rw [sharedS_def,hl,hh,hl];simp
    simp [c0,this]
   · simp [hac]
  ·
   rw [if_neg (show ¬ (a=a∧c=d∧¬ a=c) from fun e=>hcd e.2.1),if_pos c0]
   have ct:crossS c d c a=tw c d a:=rfl
   unfold onS
   rw [nn c d a nc nd na]
   by_cases ht:tw c d a=0
   ·
    rw [if_pos (show crossS a a a c=0∧crossS a a a d=0∧crossS c d c a=0∧crossS c d c a=0 from ⟨c1,c2,ht,ht⟩),shared_pt c d a hcd ht]
    simp only [ht,decide_true,Bool.true_and,Bool.and_eq_true,decide_eq_true_eq,and_assoc]
   ·
    rw [if_neg (show ¬ (crossS a a a c=0∧crossS a a a d=0∧crossS c d c a=0∧crossS c d c a=0) from fun e=>ht e.2.2.1)]
    simp [ht]
 rw [if_neg hab]
 by_cases hcd:c=d
 ·
  subst hcd
  rw [if_pos rfl]
  have c0:crossS a b c c=0:=by unfold crossS;grind
  have c1:crossS c c c a=0:=by unfold crossS;grind
  have c2:crossS c c c b=0:=by unfold crossS;grind
  rw [if_neg (show ¬ (a=b∧c=c∧¬ a=c) from fun e=>hab e.1),if_pos c0]
  unfold onS
  rw [nn a b c na nb nc]
  have ct:crossS a b a c=tw a b c:=rfl
  by_cases ht:tw a b c=0
  ·
   rw [if_pos (show crossS a b a c=0∧crossS a b a c=0∧crossS c c c a=0∧crossS c c c b=0 from ⟨ht,ht,c1,c2⟩),sharedS_comm,shared_pt a b c hab ht]
   simp only [ht,decide_true,Bool.true_and,Bool.and_eq_true,decide_eq_true_eq,and_assoc]
  ·
   rw [if_neg (show ¬ (crossS a b a c=0∧crossS a b a c=0∧crossS c c c a=0∧crossS c c c b=0) from fun e=>ht e.1)]
   simp [ht]
 rw [if_neg hcd,if_neg (show ¬ (a=b∧c=d∧¬ a=c) from fun e=>hab e.1)]
 have e1:crossS a b a c=tw a b c:=rfl
 have e2:crossS a b a d=tw a b d:=rfl
 have e0:crossS a b c d=tw a b d-tw a b c:=by unfold crossS tw;grind
 have es:crossS a c c d=tw c d a:=by unfold crossS tw;grind
 have es2:tw c d b=tw c d a-crossS a b c d:=by unfold crossS tw;grind
 have et:crossS a c a b=- tw a b c:=by unfold crossS tw;grind
 simp only [sideS_zero (nn a b c na nb nc),sideS_zero (nn a b d na nb nd)]
 by_cases hz:tw a b c=0∧tw a b d=0
 ·
  obtain ⟨z1,z2⟩:=hz
  have p1:crossS c d c a=0:=by
   unfold crossS
   refine parallel (Pt.sub_ne hab) ?_ ?_
   · unfold tw at z1 z2;grind
   · unfold tw at z1 z2;grind
  have p2:crossS c d c b=0:=by
   unfold crossS
   refine parallel (Pt.sub_ne hab) ?_ ?_
   · unfold tw at z1 z2;grind
   · unfold tw at z1 z2;grind
  rw [if_pos (show tw a b c=0∧tw a b d=0 from ⟨z1,z2⟩),if_pos (show crossS a b c d=0 by rw [e0,z1,z2];rfl),if_pos (show crossS a b a c=0∧crossS a b a d=0∧crossS c d c a=0∧crossS c d c b=0 from ⟨z1,z2,p1,p2⟩)]
 ·
  rw [if_neg hz]
  simp only [side_prod (nn a b c na nb nc) (nn a b d na nb nd),side_prod (nn c d a nc nd na) (nn c d b nc nd nb),es2,et,es]
  generalize crossS a b c d=n at *
  generalize tw c d a=s at *
  by_cases hn0:n=0
  ·
   rw [if_pos hn0,if_neg (show ¬ (crossS a b a c=0∧crossS a b a d=0∧crossS c d c a=0∧crossS c d c b=0) from fun e=>hz ⟨e.1,e.2.1⟩),if_neg]
   omega
  ·
   rw [if_neg hn0]
   by_cases hneg:n<0
   ·
    rw [if_pos hneg]
    have:(((0≤tw a b c∧tw a b d≤0∨tw a b c≤0∧0≤tw a b d)∧(0≤s∧s-n≤0∨s≤0∧0≤s-n))↔(0≤-s∧-s≤-n∧0≤- -tw a b c∧- -tw a b c≤-n)):=by omega
    simp only [this]
   ·
    rw [if_neg hneg]
    have:(((0≤tw a b c∧tw a b d≤0∨tw a b c≤0∧0≤tw a b d)∧(0≤s∧s-n≤0∨s≤0∧0≤s-n))↔(0≤s∧s≤n∧0≤-tw a b c∧-tw a b c≤n)):=by omega
    simp only [this]
end Go.Proofs.YtpempeioeiaijaaGreat
namespace Go.Proofs.YtpempeioeiaijaaGreat
open Go.RowKit

structure Sg where
 arc:Ar
 i:Nat
 n:Nat
 a:Pt
 b:Pt
structure SV where
 a:Option Addr
 n:Nat
 c:Nat
def endsS (a:Ar) (id:Int):Bool:=a.fr == id || a.dst == id
def apartS (s t:Sg):Bool:=if t.i=s.i+1∨(s.i=0∧t.i+1=t.n∧s.arc.fr=s.arc.dst) then rmeetS s.a s.b t.a t.b == 1 else rmeetS s.a s.b t.a t.b == 0
end Go.Proofs.YtpempeioeiaijaaGreat
namespace Go.Proofs.YtpempeioeiaijaaGreat
open Go.RowKit

def meetAt (s t:Sg) (x:Nd):Bool:=endsS s.arc x.id && endsS t.arc x.id && ronS s.a s.b x.pt && ronS t.a t.b x.pt
def joinedS (p:Pl) (s t:Sg):Bool:=if rmeetS s.a s.b t.a t.b=1 then p.nodes.any (meetAt s t) else rmeetS s.a s.b t.a t.b == 0

end Go.Proofs.YtpempeioeiaijaaGreat
namespace Go.Proofs.YtpempeioeiaijaaGreat
open Go.RowKit

def isEnd (s:Sg) (x:Nd):Bool:=(((s.i:Int) == 0) && (s.arc.fr == x.id)) || (((s.i:Int) == (s.n:Int)-1) && (s.arc.dst == x.id))
def offNd (s:Sg) (x:Nd):Bool:=isEnd s x || !ronS s.a s.b x.pt
def soundS (s:Sg):Bool:=!decide (s.a=s.b) && (s.arc.fr != s.arc.dst || decide (3≤(s.n:Int)))
def aloneS (p:Pl) (s:Sg):Bool:=p.nodes.all (offNd s) && soundS s
theorem all_hit {α:Type} (l:List α) (q:α→Bool) (k:Nat) (hk:k<l.length) (h:q l[k]=false):l.all q=false:=List.all_eq_false.2 ⟨l[k],List.getElem_mem hk,by simp [h]⟩
theorem all_miss {α:Type} (l:List α) (q:α→Bool) (h:∀ j (hj:j<l.length),q l[j]=true):l.all q=true:=List.all_eq_true.2 fun x hx=>by
 obtain ⟨i,hi,rfl⟩:=List.mem_iff_getElem.1 hx
 exact h i hi

end Go.Proofs.YtpempeioeiaijaaGreat
namespace Go.Proofs.YtpempeioeiaijaaGreat
open Go.RowKit

section
variable {α β:Type} {w w':World} {base base':Nat} {e e':TypeId} {size size':Nat} {f:α→List Value} {f':β→List Value} {v v':Value} {l:List α} {l':List β}
theorem Own.grown (h:Own w base e size f v l) {row:Option Nat} (hg:w.grownBy w' row) (hne:∀ g,v.ownBlock=some g→some g≠row):Own w' base e size f v l:=by
 obtain ⟨h1,h2⟩:=h
 refine ⟨h1,?_⟩
 rcases h2 with h2 | ⟨g,cap,cur,hv,hg',hh,r⟩
 · exact .inl h2
 ·
  subst hv
  refine .inr ⟨g,cap,cur,rfl,hg',?_,r⟩
  exact Blk.grown (t:=e) (cs:=cur) hh hg (hne g rfl)
theorem Own.blk (h:Own w base e size f v l) {g:Nat} (hg:v.ownBlock=some g):∃ cs,Blk w g e cs:=by
 rcases h.2 with ⟨rfl,_⟩ | ⟨g',cap,cur,rfl,_,hh,_⟩
 · simp [Value.ownBlock] at hg
 ·
  have:g'=g:=by simpa [Value.ownBlock] using hg
  subst this
  exact ⟨_,hh⟩
theorem Own.apart (h:Own w base e size f v l) (h':Own w base' e' size' f' v' l') (hne:e≠e'):∀ g,v.ownBlock=some g→some g≠v'.ownBlock:=by
 intro g hg hg'
 obtain ⟨cs,h1⟩:=h.blk hg
 obtain ⟨cs',h2⟩:=h'.blk hg'.symm
 exact Blk.ne_ h1 h2 hne rfl
end

def pt0:Pt:=⟨0,0⟩
def segsOf (a:Ar) (l:List Pt):List Sg:=(List.range (l.length-1)).map fun k=>⟨a,k,l.length-1,l.getD k pt0,l.getD (k+1) pt0⟩
def segsS (p:Pl):List Sg:=p.arcs.flatMap fun a=>segsOf a (pathS p a)
theorem pathS_length (p:Pl) (a:Ar):(pathS p a).length=a.via.length+2:=by simp [pathS]
end Go.Proofs.YtpempeioeiaijaaGreat
namespace Go.Proofs.YtpempeioeiaijaaGreat
open Go.RowKit

def triB {α:Type} (l:List α) (f:α→Bool) (g:α→α→Bool):Bool:=(List.range l.length).all fun i=>match l[i]? with
 | none=>true
 | some t=>f t && (l.take i).all fun s=>g s t
theorem tri_f {α:Type} (l:List α) (f:α→Bool) (g:α→α→Bool) (i:Nat) (hi:i<l.length) (h:f l[i]=false):triB l f g=false:=by
 unfold triB
 rw [List.all_eq_false]
 exact ⟨i,List.mem_range.2 hi,by simp [List.getElem?_eq_getElem hi,h]⟩
theorem tri_g {α:Type} (l:List α) (f:α→Bool) (g:α→α→Bool) (i k:Nat) (hk:k<i) (hi:i<l.length) (h:g (l[k]'(by omega)) l[i]=false):triB l f g=false:=by
 unfold triB
 rw [List.all_eq_false]
 refine ⟨i,List.mem_range.2 hi,?_⟩
 have:(l.take i).all (fun s=>g s l[i])=false:=by
  rw [List.all_eq_false]
  refine ⟨l[k]'(by omega),?_,by simp [h]⟩
  rw [List.mem_iff_getElem]
  exact ⟨k,by rw [List.length_take];omega,by simp⟩
 simp [List.getElem?_eq_getElem hi,this]
theorem tri_ok {α:Type} (l:List α) (f:α→Bool) (g:α→α→Bool) (h1:∀ i (hi:i<l.length),f l[i]=true) (h2:∀ i k (hk:k<i) (hi:i<l.length),g (l[k]'(by omega)) l[i]=true):triB l f g=true:=by
 unfold triB
 rw [List.all_eq_true]
 intro i hi
 have hi:=List.mem_range.1 hi
 rw [List.getElem?_eq_getElem hi]
 simp only [Bool.and_eq_true]
 refine ⟨h1 i hi,List.all_eq_true.2 fun s hs=>?_⟩
 obtain ⟨k,hk,rfl⟩:=List.mem_iff_getElem.1 hs
 rw [List.length_take] at hk
 have:=h2 i k (by omega) hi
 simpa using this

def pairR (p:Pl) (s t:Sg):Bool:=if s.arc.id=t.arc.id then apartS s t else joinedS p s t
def planarR (p:Pl):Bool:=triB (segsS p) (aloneS p) (pairR p)

end Go.Proofs.YtpempeioeiaijaaGreat
namespace Go.Proofs.YtpempeioeiaijaaGreat
open Go.RowKit

def orderedS (p:Pl):Bool:=asc (p.nodes.map (·.id)) && asc (p.arcs.map (·.id)) && asc p.faces
def sidesS (p:Pl):Bool:=p.arcs.all fun a=>faceS p.faces a.left && faceS p.faces a.right
def checkS (p:Pl):Int :=
 if limS p=true then 3 else if orderedS p=false then 10 else if rangesS p=false then 2 else if dupS (p.nodes.map (·.pt))=true then 8
 else if p.arcs.all (hasEnds p)=false then 7 else if sidesS p=false then 12 else if planarR p=false then 11 else 0

theorem flat_le {α β:Type} (l:List α) (f:α→List β) (n:Nat) (h:∀ a∈l,(f a).length≤n):(l.flatMap f).length≤l.length*n:=by
 induction l with
 | nil=>simp
 | cons a l ih =>
  simp only [List.flatMap_cons,List.length_append,List.length_cons,Nat.succ_mul]
  have:=h a (by simp)
  have:=ih fun b hb=>h b (by simp [hb])
  omega
theorem limS_no {p:Pl} (h:limS p=false):(∀ a∈p.arcs,a.via.length≤64)∧p.nodes.length≤256∧p.arcs.length≤256∧p.faces.length≤64∧(p.arcs.flatMap (·.via)).length≤16384:=by
 unfold limS at h
 simp only [Bool.or_eq_false_iff,decide_eq_false_iff_not,List.any_eq_false,decide_eq_true_eq] at h
 obtain ⟨h1,⟨h2,h3⟩,h4⟩:=h
 have h5:∀ a∈p.arcs,a.via.length≤64:=fun a ha=>by have:=h1 a ha;omega
 have h6:=flat_le p.arcs (·.via) 64 h5
 refine ⟨h5,by omega,by omega,by omega,by omega⟩

end Go.Proofs.YtpempeioeiaijaaGreat
namespace Go.Proofs.YtpempeioeiaijaaGreat
open Go.RowKit

def hasB (l:List Int) (a:Ar):Bool:=l.any (fun y=>y == a.fr) && l.any (fun y=>y == a.dst)
def connS (p:Pl) (l:List Int):Int :=
 if dupS (p.nodes.map (·.pt))=true then 8 else if p.arcs.all (hasB l)=false then 7 else if sidesS p=false then 12 else 0

set_option maxRecDepth 100000 in
set_option maxHeartbeats 4000000 in
theorem connected_spec (v u:Value) (p:Pl) (l:List Int) (w:World) (h:PlV w v p) (hu:Ints w u l) :
  Calls Tryz.prog 50 #[v,u] w fun e w'=>e=.returned (.int .i64 (connS p l))∧Below w.heap.size w w':=by
 obtain ⟨_,_,vf,al,rfl,hpa,⟨An,cn,rfl,hn1,hn2,hR⟩,⟨⟨Aa,ca,rfl,ha1,ha2,hRa⟩,hV⟩,hF⟩:=h
 unfold maxLen at hn2 ha2
 have HF:=Lib.hid hF;clear hF
 have HU:=Lib.hid hu;clear hu
 have HV:=Lib.hid hV;clear hV
 have HR:=Lib.hid hR;clear hR
 have HRa:=Lib.hid hRa;clear hRa
 have hc:connS p l=if dupS (p.nodes.map (·.pt))=true then 8 else if al.all (fun a=>hasB l a.1)=false then 7 else if al.all (fun a=>faceS p.faces a.1.left && faceS p.faces a.1.right)=false then 12 else 0:=by
  unfold connS sidesS;rw [hpa,List.all_map,List.all_map];rfl
 obtain ⟨q,hq⟩:∃ q,connS p l=q:=⟨_,rfl⟩
 rw [hq]
 rw [hc] at hq
 have Hq:=Lib.hid hq;clear hq hc hpa
 generalize p.nodes=nl at *
 generalize p.faces=fl at *
 go_enter Tryz.func50,Tryz.ntmps50
 go_wp2_with fail
 obtain ⟨W0,hW0⟩:∃ W0:World,W0=w.alloc (.cells #[.slice An nl.length cn,.slice Aa al.length ca,vf] 34):=⟨_,rfl⟩
 have X1:Blk W0 w.heap.size 34 #[.slice An nl.length cn,.slice Aa al.length ca,vf]:=by rw [hW0];exact Blk.made rfl _ _
 have Bw0:Below w.heap.size w W0:=by rw [hW0];exact bA (bR w) _
 rw [← hW0]
 have HX0:=Lib.hid X1
 have HB0:=Lib.hid Bw0
 clear hW0 X1 Bw0
 go_loopw [18] (fun s wr=>∃ i:Nat,i≤nl.length∧s=.int .i64 i∧Below W0.heap.size W0 wr∧∀ j k (hk:k<j) (hj:j<nl.length),j<i→¬ nl[j].pt=nl[k].pt) (fun s _=>nl.length-(intOf s).toNat)
 case atStart => exact ⟨0,Nat.zero_le _,rfl,bR W0,fun _ _ _ _ h=>by omega⟩
 case round =>
  obtain ⟨i,hi,rfl,hb,hno⟩:=hrel
  have Hb:=Lib.hid hb
  have Hno:=Lib.hid hno
  have X1:=HX0.out.keep hb
  clear hb hno
  obtain ⟨X1l,X1a,X1b,X1c,-,-,-⟩:=X1.facts3
  by_cases hlt:i<nl.length
  case pos =>
   obtain ⟨b,o,rfl,hlb,c0,c1,c2⟩:=(HR.out.mono (bT HB0.out Hb.out)).nd hlt
   go_wp2_with fail
   obtain ⟨W1,hW1⟩:∃ W1:World,W1=wr.alloc (.cells #[.int .i64 nl[i].id,.int .i64 nl[i].pt.x,.int .i64 nl[i].pt.y] 47):=⟨_,rfl⟩
   have B1:Below W0.heap.size W0 W1:=by rw [hW1];exact bA Hb.out _
   have X6:Blk W1 wr.heap.size 47 #[.int .i64 nl[i].id,.int .i64 nl[i].pt.x,.int .i64 nl[i].pt.y]:=by rw [hW1];exact Blk.made rfl _ _
   rw [← hW1]
   have HX6:=Lib.hid X6
   have HB1:=Lib.hid B1
   clear c0 c1 c2 hlb hW1 X1 X1l X1a X1b X1c X6 B1
   obtain ⟨wo,rfl⟩:∃ wo:World,wo=wr:=⟨_,rfl⟩
   go_loopw [28] (fun s wx=>∃ k:Nat,k≤i∧s=.int .i64 k∧Below W1.heap.size W1 wx∧∀ m (hm:m<nl.length),m<k→¬ nl[i].pt=nl[m].pt) (fun s _=>i-(intOf s).toNat)
   case atStart => exact ⟨0,Nat.zero_le _,rfl,bR W1,fun _ _ h=>by omega⟩
   case round =>
    obtain ⟨k,hk,rfl,hb,hno2⟩:=hrel
    have Hb2:=Lib.hid hb
    have Hno2:=Lib.hid hno2
    have X6:=HX6.out.keep hb
    clear hb hno2
    by_cases hlk:k<i
    case neg =>
     have HN:=Lib.hid (show ∀ j m (hm:m<j) (hj:j<nl.length),j<i+1→¬ nl[j].pt=nl[m].pt from fun j m hm hj hji=>by
      by_cases e:j<i
      · exact Hno.out j m hm hj e
      ·
       have:j=i:=by omega
       subst this;exact Hno2.out m (by omega) (by omega))
     go_wp2_with fail
     go_roundw
     case rel => exact ⟨i+1,by omega,by go_num,bT HB1.out Hb2.out,HN.out⟩
     case measure => simp [intOf];omega
    have hkl:k<nl.length:=by omega
    obtain ⟨b',o',hbo,hlb,c0,c1,c2⟩:=(HR.out.mono (bT HB0.out (bT HB1.out Hb2.out))).nd hkl
    simp only [Option.some.injEq,Addr.mk.injEq,and_true] at hbo
    obtain ⟨rfl,rfl⟩:=hbo
    obtain ⟨X6l,X6a,X6b,X6c,-,-,-⟩:=X6.facts3
    have hE:=run_eql_pt nl[i].pt nl[k].pt
    by_cases he:nl[i].pt=nl[k].pt
    ·
     have hd:decide (nl[i].pt=nl[k].pt)=true:=decide_eq_true he
     have hf:=Lib.hid (show 8=q by rw [← Hq.out,if_pos (dup_yes (nl.map (·.pt)) i k hlk (by simpa using hlt) (by simpa using he))])
     clear he
     go_wp2_with fail
     go_ret
     exact ⟨ret_int hf.out,bT HB0.out (bT HB1.out (bA Hb2.out _))⟩
    ·
     have hd:decide (nl[i].pt=nl[k].pt)=false:=decide_eq_false he
     have He:=Lib.hid he
     clear he
     go_wp2_with fail
     go_roundw
     case rel => exact ⟨k+1,by omega,by go_num,bA Hb2.out _,fun m hm hmk=>if e:m<k then Hno2.out m hm e else by
       have:m=k:=by omega
       subst this;exact He.out⟩
     case measure => simp [intOf];omega
  case neg =>
  have hd:=Lib.hid (dup_no (nl.map (·.pt)) (fun j m hm hj=>by
    have:=Hno.out j m hm (by simpa using hj) (by rw [List.length_map] at hj;omega)
    simpa using this))
  have ho:=Hq.out
  rw [hd.out] at ho
  simp only [Bool.false_eq_true,if_false] at ho
  replace Hq:=Lib.hid ho
  clear ho hd
  go_wp2_with fail
  obtain ⟨wo,rfl⟩:∃ wo:World,wo=wr:=⟨_,rfl⟩
  have HX1:=Lib.hid X1
  have HBo:=Lib.hid (bT HB0.out Hb.out)
  clear X1 X1l X1a X1b X1c Hno
  go_loopw [42] (fun s wr=>∃ k:Nat,k≤al.length∧s=.int .i64 k∧Below wo.heap.size wo wr∧∀ j (hj:j<al.length),j<k→hasB l al[j].1=true) (fun s _=>al.length-(intOf s).toNat)
  case atStart => exact ⟨0,Nat.zero_le _,rfl,bR wo,fun _ _ h=>by omega⟩
  case round =>
   obtain ⟨k,hk,rfl,hb,hno⟩:=hrel
   have Hb2:=Lib.hid hb
   have Hno:=Lib.hid hno
   have X1:=HX1.out.keep hb
   clear hb hno
   try clear X1l
   try clear X1a
   try clear X1b
   try clear X1c
   obtain ⟨X1l,X1a,X1b,X1c,-,-,-⟩:=X1.facts3
   by_cases hlt:k<al.length
   case pos =>
    obtain ⟨b,o,rfl,hlb,c0,c1,c2,c3,c4,c5⟩:=(HRa.out.mono (bT HBo.out Hb2.out)).ar hlt
    obtain ⟨Av,cv,hv,-⟩:=HV.out k hlt
    rw [hv] at c3
    clear hv
    go_wp2_with fail
    refine (Contains_int_spec _ l _ _ (HU.out.mono (bA (bT HBo.out Hb2.out) _))).mono ?_
    rintro e w2 ⟨rfl,hb2⟩
    have B2:=bT (bA Hb2.out _) hb2
    have X10:Blk w2 wr.heap.size 50 _:=(Blk.made rfl _ _).keep hb2
    clear hb2 c0 c1 c2 c3 c4 c5 hlb
    obtain ⟨X10l,X10a,X10b,X10c,X10d,X10e,X10f,-,-,-,-,-,-⟩:=X10.facts6
    cases h1:l.any (fun y=>y == al[k].1.fr)
    case false =>
     have hg:=Lib.hid (all_hit al (fun a=>hasB l a.1) k hlt (by simp [hasB,h1]))
     have hf:=Lib.hid (show 7=q by rw [← Hq.out,if_pos hg.out])
     clear h1
     go_wp2_with fail
     go_ret
     exact ⟨ret_int hf.out,bT HBo.out B2⟩
    have H1:=Lib.hid h1;clear h1
    go_wp2_with fail
    refine (Contains_int_spec _ l _ _ (HU.out.mono (bT HBo.out B2))).mono ?_
    rintro e w3 ⟨rfl,hb3⟩
    have B3:=bT B2 hb3
    clear hb3 X10 X10l X10a X10b X10c X10d X10e X10f
    cases h1:l.any (fun y=>y == al[k].1.dst)
    case false =>
     have hg:=Lib.hid (all_hit al (fun a=>hasB l a.1) k hlt (by simp [hasB,h1]))
     have hf:=Lib.hid (show 7=q by rw [← Hq.out,if_pos hg.out])
     clear h1
     go_wp2_with fail
     go_ret
     exact ⟨ret_int hf.out,bT HBo.out B3⟩
    have hg:=Lib.hid (show hasB l al[k].1=true by simp only [hasB,H1.out,h1];rfl)
    clear h1
    go_wp2_with fail
    go_roundw
    case rel => exact ⟨k+1,by omega,by go_num,B3,all_succ (p:=fun x=>hasB l x.1=true) Hno.out hlt hg.out⟩
    case measure => simp [intOf];omega
   case neg =>
   have hd:=Lib.hid (all_miss al (fun a=>hasB l a.1) (fun j hj=>Hno.out j hj (by omega)))
   have ho:=Hq.out
   rw [hd.out] at ho
   simp only [Bool.true_eq_false,if_false] at ho
   replace Hq:=Lib.hid ho
   clear ho hd
   go_wp2_with fail
   obtain ⟨wq,rfl⟩:∃ wq:World,wq=wr:=⟨_,rfl⟩
   replace HX1:=Lib.hid X1
   replace HBo:=Lib.hid (bT HBo.out Hb2.out)
   clear X1 X1l X1a X1b X1c Hno Hb2
   go_loopw [62] (fun s wr=>∃ k:Nat,k≤al.length∧s=.int .i64 k∧Below wq.heap.size wq wr∧∀ j (hj:j<al.length),j<k→(faceS fl al[j].1.left && faceS fl al[j].1.right)=true) (fun s _=>al.length-(intOf s).toNat)
   case atStart => exact ⟨0,Nat.zero_le _,rfl,bR wq,fun _ _ h=>by omega⟩
   case round =>
    obtain ⟨k,hk,rfl,hb,hno⟩:=hrel
    have Hb2:=Lib.hid hb
    have Hno:=Lib.hid hno
    have X1:=HX1.out.keep hb
    clear hb hno
    try clear X1l
    try clear X1a
    try clear X1b
    try clear X1c
    obtain ⟨X1l,X1a,X1b,X1c,-,-,-⟩:=X1.facts3
    by_cases hlt:k<al.length
    case neg =>
     have hd:=Lib.hid (all_miss al (fun a=>faceS fl a.1.left && faceS fl a.1.right) (fun j hj=>Hno.out j hj (by omega)))
     have hf:=Lib.hid (show 0=q by rw [← Hq.out,hd.out];rfl)
     go_wp2_with fail
     go_ret
     exact ⟨ret_int hf.out,bT HBo.out Hb2.out⟩
    obtain ⟨b,o,rfl,hlb,c0,c1,c2,c3,c4,c5⟩:=(HRa.out.mono (bT HBo.out Hb2.out)).ar hlt
    obtain ⟨Av,cv,hv,-⟩:=HV.out k hlt
    rw [hv] at c3
    clear hv
    go_wp2_with fail
    obtain ⟨W5,hW5⟩:∃ W5:World,W5=wr.alloc (.cells #[.int .i64 al[k].1.id,.int .i64 al[k].1.fr,.int .i64 al[k].1.dst,.slice Av al[k].1.via.length cv,.int .i64 al[k].1.left,.int .i64 al[k].1.right] 50):=⟨_,rfl⟩
    have hA5:Below wr.heap.size wr W5:=by rw [hW5];exact bA (bR wr) _
    have HB5:=Lib.hid (bT Hb2.out hA5)
    have HX5:=Lib.hid (X1.keep hA5)
    rw [← hW5]
    clear c0 c1 c2 c3 c4 c5 hlb hW5 hA5 X1 X1l X1a X1b X1c
    obtain ⟨wp,rfl⟩:∃ wp:World,wp=wr:=⟨_,rfl⟩
    go_loopw [71] (fun s wx=>∃ j:Int,(j=0∨j=1∨j=2)∧s=.int .i64 j∧Below W5.heap.size W5 wx∧(1≤j→faceS fl al[k].1.left=true)∧(2≤j→faceS fl al[k].1.right=true)) (fun s _=>2-(intOf s).toNat)
    case atStart => exact ⟨0,by omega,rfl,bR W5,fun h=>by omega,fun h=>by omega⟩
    case round =>
     obtain ⟨j,hj,rfl,hb,hl,hr⟩:=hrel
     have Hb3:=Lib.hid hb
     have Hl:=Lib.hid hl
     have Hr:=Lib.hid hr
     clear hb hl hr
     rcases hj with rfl | rfl | rfl
     ·
      have hI:∀ w,(Instr.index 124 (.agg #[.int .i64 al[k].1.left,.int .i64 al[k].1.right]) (.int .i64 0)).run Tryz.prog w=.ok (.int .i64 al[k].1.left) w:=fun _=>by kernel_rfl
      cases hz:(al[k].1.left != 0)
      case false =>
       have hg:=Lib.hid (show faceS fl al[k].1.left=true by
        have:al[k].1.left=0:=by simpa [bne_eq_false_iff_eq] using hz
        simp [faceS,this])
       go_wp2_with fail
       go_roundw
       case rel => exact ⟨1,by omega,rfl,Hb3.out,fun h=>by first | exact hg.out | exact Hl.out (by omega),fun h=>by first | omega | exact hg.out⟩
       case measure => simp [intOf]
      have X1:=HX5.out.keep Hb3.out
      try clear X1l
      try clear X1a
      try clear X1b
      try clear X1c
      obtain ⟨X1l,X1a,X1b,X1c,-,-,-⟩:=X1.facts3
      go_wp2_with fail
      refine (Contains_int_spec _ fl _ _ (HF.out.mono (bT HBo.out (bT HB5.out Hb3.out)))).mono ?_
      rintro e w6 ⟨rfl,hb6⟩
      have B6:=bT Hb3.out hb6
      clear hb6 X1 X1l X1a X1b X1c
      cases h1:fl.any (fun y=>y == al[k].1.left)
      case false =>
       have hfc:=Lib.hid (show faceS fl al[k].1.left=false by
        have:¬ al[k].1.left=0:=by simpa using hz
        simp only [faceS,h1];simpa using this)
       have hg:=Lib.hid (all_hit al (fun a=>faceS fl a.1.left && faceS fl a.1.right) k hlt (by simp [hfc.out]))
       have hf:=Lib.hid (show 12=q by rw [← Hq.out,if_pos hg.out])
       clear h1
       go_wp2_with fail
       go_ret
       exact ⟨ret_int hf.out,bT HBo.out (bT HB5.out B6)⟩
      have hg:=Lib.hid (show faceS fl al[k].1.left=true by simp [faceS,h1])
      clear h1
      go_wp2_with fail
      go_roundw
      case rel => exact ⟨1,by omega,rfl,B6,fun h=>by first | exact hg.out | exact Hl.out (by omega),fun h=>by first | omega | exact hg.out⟩
      case measure => simp [intOf]
     ·
      have hI:∀ w,(Instr.index 124 (.agg #[.int .i64 al[k].1.left,.int .i64 al[k].1.right]) (.int .i64 1)).run Tryz.prog w=.ok (.int .i64 al[k].1.right) w:=fun _=>by kernel_rfl
      cases hz:(al[k].1.right != 0)
      case false =>
       have hg:=Lib.hid (show faceS fl al[k].1.right=true by
        have:al[k].1.right=0:=by simpa [bne_eq_false_iff_eq] using hz
        simp [faceS,this])
       go_wp2_with fail
       go_roundw
       case rel => exact ⟨2,by omega,rfl,Hb3.out,fun h=>by first | exact hg.out | exact Hl.out (by omega),fun h=>by first | omega | exact hg.out⟩
       case measure => simp [intOf]
      have X1:=HX5.out.keep Hb3.out
      try clear X1l
      try clear X1a
      try clear X1b
      try clear X1c
      obtain ⟨X1l,X1a,X1b,X1c,-,-,-⟩:=X1.facts3
      go_wp2_with fail
      refine (Contains_int_spec _ fl _ _ (HF.out.mono (bT HBo.out (bT HB5.out Hb3.out)))).mono ?_
      rintro e w6 ⟨rfl,hb6⟩
      have B6:=bT Hb3.out hb6
      clear hb6 X1 X1l X1a X1b X1c
      cases h1:fl.any (fun y=>y == al[k].1.right)
      case false =>
       have hfc:=Lib.hid (show faceS fl al[k].1.right=false by
        have:¬ al[k].1.right=0:=by simpa using hz
        simp only [faceS,h1];simpa using this)
       have hg:=Lib.hid (all_hit al (fun a=>faceS fl a.1.left && faceS fl a.1.right) k hlt (by simp [hfc.out]))
       have hf:=Lib.hid (show 12=q by rw [← Hq.out,if_pos hg.out])
       clear h1
       go_wp2_with fail
       go_ret
       exact ⟨ret_int hf.out,bT HBo.out (bT HB5.out B6)⟩
      have hg:=Lib.hid (show faceS fl al[k].1.right=true by simp [faceS,h1])
      clear h1
      go_wp2_with fail
      go_roundw
      case rel => exact ⟨2,by omega,rfl,B6,fun h=>by first | exact hg.out | exact Hl.out (by omega),fun h=>by first | omega | exact hg.out⟩
      case measure => simp [intOf]
     ·
      have hg:=Lib.hid (show (faceS fl al[k].1.left && faceS fl al[k].1.right)=true by rw [Hl.out (by omega),Hr.out (by omega)];rfl)
      go_wp2_with fail
      go_roundw
      case rel => exact ⟨k+1,by omega,by go_num,bT HB5.out Hb3.out,all_succ (p:=fun x=>(faceS fl x.1.left && faceS fl x.1.right)=true) Hno.out hlt hg.out⟩
      case measure => simp [intOf];omega
end Go.Proofs.YtpempeioeiaijaaGreat
namespace Go.Proofs.YtpempeioeiaijaaGreat
open Go.RowKit

theorem info_pt:∃ i,Tryz.prog.info? 42=some i∧i.zero=some (.agg #[.int .i64 0,.int .i64 0])∧i.size=2∧i.bytes=16:=info_parts (by kernel_rfl)

set_option maxRecDepth 100000 in
set_option maxHeartbeats 1000000 in
theorem Grow_pt_spec (n:Nat) (w:World) (h1:1≤n) (h2:n≤2097152) :
  Calls Tryz.prog 115 #[.slice none 0 0,.int .i64 n] w fun e w'=>∃ c,e=.returned (.slice (some ⟨w.heap.size,0,none⟩) 0 c)∧Below w.heap.size w w'∧Own w' w.heap.size 42 2 ptC (.slice (some ⟨w.heap.size,0,none⟩) 0 c) []:=by
 obtain ⟨i,hi,hz,hs,hb⟩:=info_pt
 have hr:∀ ty,(Builtin.append_ #[25,3] ty #[.slice none 0 0,.int .i64 n]).run Tryz.prog w=_:=fun ty =>
  Lib.run_append_grow_zeros w 25 3 ty 42 i _ .i64 .i64 Tryz.underlying25 Tryz.underlying3 hi hz none 0 0 [] (by simpa using run_firstCells_none (P:=Tryz.prog) (w:=w.drew) i.size 0 0 0) n (by omega) (by omega) (by omega) (by omega) (by rw [hb];omega)
   (by rw [hb];exact growslice_fits (by omega) (by omega))
 have hge:=grownCap_ge w (0+n) 0 42
 have hle:=grownCap_le_maxLen w (0+n) 0 42 (by unfold maxLen;omega)
 have hle':=hle
 unfold maxLen at hle'
 generalize hG:grownCap w (0+n) 0 42=G at *
 have HR:=Lib.hid hr
 have Hle:=Lib.hid hle
 clear hr hG hle hi hz hs hb
 simp only [Nat.zero_add] at HR
 have q1:¬ ((n:Int)<0):=by omega
 have q2:0<(n:Int):=by omega
 go_enter Tryz.func115,Tryz.ntmps115
 go_wp2_with (at_builtin;refine Lib.wpList_append_run _ rfl _ _ _ _ rfl _ _ rfl rfl _ _ (HR.out _) ?_)
 go_ret
 refine ⟨_,rfl,bA (bD (bR w)) _,?_⟩
 refine ⟨rfl,.inr ⟨w.heap.size,_,_,rfl,Nat.le_refl _,heap_alloc_new _ _,Nat.zero_le _,Hle.out,?_,by simp⟩⟩
 simp only [Array.size_append,List.size_toArray,List.length_nil,size_zeroCells]
 simp only [Value.cells,List.size_toArray,List.length_cons,List.length_nil]
 omega

structure PS where
 l:List Pt
 a:Option Addr
 c:Nat
def psC (x:PS):List Value:=[.slice x.a x.l.length x.c]
theorem Row.ps {w:World} {A:Option Addr} {l:List PS} (h:Row w A (l.flatMap psC)) {k:Nat} (hk:k<l.length) :
  ∃ b o,A=some ⟨b,o,none⟩∧b<w.heap.size∧w.cell? ⟨b,o+k,none⟩=some (.slice l[k].a l[k].l.length l[k].c):=by
 obtain ⟨b,o,hA,hb,hc⟩:=h.at_ (n:=1) (fun _=>rfl) hk (by omega)
 exact ⟨b,o,hA,hb,by simpa using hc 0 _ rfl⟩

def sumL (L:List PS) (k:Nat):Nat:=((L.take k).flatMap (·.l)).length
theorem sumL_succ (L:List PS) (k:Nat) (hk:k<L.length):sumL L (k+1)=sumL L k+L[k].l.length:=by
 unfold sumL
 rw [List.take_succ_eq_append_getElem hk,List.flatMap_append,List.length_append];simp

set_option maxRecDepth 100000 in
set_option maxHeartbeats 1000000 in
theorem Concat_pt_spec (v:Value) (L:List PS) (w:World) (hv:Sl w v L.length (L.flatMap psC)) (hp:∀ k (hk:k<L.length),Pts w (.slice L[k].a L[k].l.length L[k].c) L[k].l)
  (hL:L.length≤1048576) (h1:1≤(L.flatMap (·.l)).length) (h2:(L.flatMap (·.l)).length≤2097152) :
  Calls Tryz.prog 62 #[v] w (RetOwnPts w (L.flatMap (·.l))):=by
 obtain ⟨A,c,rfl,hn,hc,hR⟩:=hv
 unfold maxLen at hc
 have HP:=Lib.hid hp;clear hp
 have HR:=Lib.hid hR;clear hR
 have hb:∀ k,sumL L k≤2097152:=fun k=>Nat.le_trans (flat_take_le L (·.l) k) h2
 have HBd:=Lib.hid hb;clear hb
 have H1:=Lib.hid h1;have H2:=Lib.hid h2
 clear h1 h2
 go_enter Tryz.func62,Tryz.ntmps62
 go_wp2_with fail
 go_loopw [3,11] (fun s i wr=>∃ k:Nat,k≤L.length∧i=.int .i64 k∧s=.int .i64 (sumL L k:Nat)∧wr=w) (fun _ i _=>L.length-(intOf i).toNat)
 case atStart => exact ⟨0,Nat.zero_le _,rfl,rfl,rfl⟩
 case round =>
  obtain ⟨k,hk,rfl,rfl,rfl⟩:=hrel
  by_cases hlt:k<L.length
  case pos =>
   obtain ⟨b,o,rfl,hlb,c0⟩:=HR.out.ps hlt
   have ht:=sumL_succ L k hlt
   have hb:=HBd.out (k+1)
   have Ht:=Lib.hid ht
   rw [ht] at hb
   clear ht
   go_wp2_with fail
   go_roundw
   case rel => exact ⟨k+1,by omega,by go_num,by rw [Ht.out];go_num,trivial⟩
   case measure => simp [intOf];omega
  have hE:L.take k=L:=List.take_of_length_le (by omega)
  have hN0:sumL L k=(L.flatMap (·.l)).length:=by unfold sumL;rw [hE]
  rw [hN0]
  have h1:=H1.out
  have h2:=H2.out
  clear hE hN0
  generalize hN:(L.flatMap (·.l)).length=N at *
  have HN:=Lib.hid hN
  clear hN
  go_wp2_with fail
  refine (Grow_pt_spec N _ h1 h2).mono ?_
  rintro e w1 ⟨c1,rfl,hb1,hown⟩
  have Hown:=Lib.hid hown
  have Hb1:=Lib.hid hb1
  clear hown hb1 h1 h2
  obtain ⟨wo,rfl⟩:∃ wo:World,wo=wr:=⟨_,rfl⟩
  go_wp2_with fail
  go_loopw [6,27] (fun s i wr=>∃ k:Nat,k≤L.length∧i=.int .i64 k∧Own wr wo.heap.size 42 2 ptC s ((L.take k).flatMap (·.l))∧Below wo.heap.size wo wr) (fun _ i _=>L.length-(intOf i).toNat)
  case atStart => exact ⟨0,Nat.zero_le _,rfl,Hown.out,Hb1.out⟩
  case round =>
   obtain ⟨k,hk,rfl,hown,hb⟩:=hrel
   have Hb:=Lib.hid hb
   replace Hown:=Lib.hid hown
   have hsz:=hb.size
   clear hb hown
   by_cases hlt:k<L.length
   case neg =>
    have hE:L.take k=L:=List.take_of_length_le (by omega)
    have ho:=Hown.out
    rw [hE] at ho
    replace Hown:=Lib.hid ho
    clear ho hE
    go_wp2_with fail
    go_ret
    exact ⟨_,rfl,Hb.out,Hown.out⟩
   obtain ⟨b,o,rfl,hlb,c0⟩:=(HR.out.mono Hb.out).ps hlt
   have hlen:=Lib.hid (show ((L.take k).flatMap (·.l)).length+L[k].l.length≤2097152 by
    have ht:=sumL_succ L k hlt
    have:=HBd.out (k+1)
    show sumL L k+L[k].l.length≤2097152
    omega)
   go_wp2_with
    (at_builtin
     refine wpList_appl _ rfl (.tmp 31) (.tmp 32) _ rfl (base:=wo.heap.size) elem_pt ptC_len ptC_one rfl Hown.out rfl (l2:=L[k].l) ((HP.out k hlt).mono Hb.out) (by have:=hlen.out;omega) (by have:=hlen.out;omega) hsz ?_
     intro v1 w1 hown1 hg hat
     have Bw1:=Lib.hid (show Below wo.heap.size wo w1 from bG Hb.out hg (fun g hk=>(Hown.out.lt g hk).1))
     clear hg hat
     have Hown1:=Lib.hid hown1;clear hown1)
   go_roundw
   case rel => exact ⟨k+1,by omega,by go_num,by rw [List.take_succ_eq_append_getElem hlt,List.flatMap_append];simpa using Hown1.out,Bw1.out⟩
   case measure => simp [intOf];omega

set_option maxRecDepth 100000 in
set_option maxHeartbeats 2000000 in
theorem Path_spec (v:Value) (p:Pl) (id:Int) (w:World) (h:PlV w v p) (hsh:Short p) :
  Calls Tryz.prog 33 #[v,.int .i64 id] w (RetPathE w (pathOf p id)):=by
 have HP:=Lib.hid h
 have HSh:=Lib.hid hsh;clear hsh
 obtain ⟨vn,vr,vf,al,rfl,-⟩:=h
 have TN:∀ id W,Below w.heap.size w W→Calls Tryz.prog 61 #[.agg #[vn,vr,vf],.int .i64 id] W _:=fun id W hW=>Node_spec _ p id W (HP.out.mono hW)
 simp only [ndRes,ndV] at TN
 have HN:=Lib.hid TN;clear TN
 obtain ⟨q,hq⟩:∃ q,pathOf p id=q:=⟨_,rfl⟩
 rw [hq]
 have Hq:=Lib.hid hq;clear hq
 go_enter Tryz.func33,Tryz.ntmps33
 go_wp2_with fail
 refine (Arc_spec _ p id _ (HP.out.mono (bA (bR w) _)) HSh.out).mono ?_
 rintro e w1 ⟨v1,rfl,hb1,hp1⟩
 have Bw:Below w.heap.size w w1:=by
  repeat (first | with_reducible exact bR _ | with_reducible assumption | with_reducible refine bA ?_ _ | with_reducible refine bD ?_ | with_reducible refine bN ?_ _ | ((with_reducible refine bS ?_ ?_ _);rotate_left;(simp;try omega)) | ((with_reducible refine bT ?_ ?_);rotate_left;with_reducible assumption) | with_reducible refine bT ?_ (by assumption))
 have X2:Blk _ (w.heap.size) 34 #[vn,vr,vf]:=Blk.keep (by repeat (first | exact Blk.made (by simp) _ _ | refine Blk.alloc ?_ _)) hb1
 clear hb1
 have HP1:=Lib.hid hp1
 obtain ⟨A1,c1,rfl,-⟩:=hp1
 generalize hr:findAr p.arcs id=r at *
 have Hr:=Lib.hid hr;clear hr
 obtain ⟨a,ha⟩:∃ a,r.getD ar0=a:=⟨_,rfl⟩
 rw [ha] at HP1 ⊢
 obtain ⟨s,hs⟩:∃ s,r.isSome=s:=⟨_,rfl⟩
 rw [hs]
 have Ha:=Lib.hid ha;have Hs:=Lib.hid hs;clear ha hs
 simp only [arV]
 obtain ⟨X2l,X2a,X2b,X2c,-,-,-⟩:=X2.facts3
 go_wp2_with fail
 refine (HN.out _ _ (bA Bw _)).mono ?_
 rintro e w2 ⟨rfl,hb2⟩
 have X6:Blk w2 w1.heap.size 50 #[.int .i64 a.id,.int .i64 a.fr,.int .i64 a.dst,.slice A1 a.via.length c1,.int .i64 a.left,.int .i64 a.right]:=(Blk.made rfl _ _).keep hb2
 replace X2:=(X2.alloc _).keep hb2
 have HP2:=Lib.hid ((HP1.out.mono (bA (bR w1) _)).mono hb2)
 replace Bw:=bT (bA Bw _) hb2
 clear hb2
 obtain ⟨n1,hn1⟩:∃ n1,(findNd p.nodes a.fr).getD nd0=n1:=⟨_,rfl⟩
 rw [hn1]
 obtain ⟨s1,hs1⟩:∃ s1,(findNd p.nodes a.fr).isSome=s1:=⟨_,rfl⟩
 rw [hs1]
 have Hn1:=Lib.hid hn1;have Hs1:=Lib.hid hs1;clear hn1 hs1
 try clear X2l
 try clear X2a
 try clear X2b
 try clear X2c
 obtain ⟨X2l,X2a,X2b,X2c,-,-,-⟩:=X2.facts3
 obtain ⟨X6l,X6a,X6b,X6c,X6d,X6e,X6f,-,-,-,-,-,-⟩:=X6.facts6
 go_wp2_with fail
 refine (HN.out _ _ (bA Bw _)).mono ?_
 rintro e w3 ⟨rfl,hb3⟩
 have X8:Blk w3 w2.heap.size 47 #[.int .i64 n1.id,.int .i64 n1.pt.x,.int .i64 n1.pt.y]:=(Blk.made rfl _ _).keep hb3
 replace X2:=(X2.alloc _).keep hb3
 replace X6:=(X6.alloc _).keep hb3
 have HP3:=Lib.hid ((HP2.out.mono (bA (bR w2) _)).mono hb3)
 replace Bw:=bT (bA Bw _) hb3
 clear hb3
 obtain ⟨n2,hn2⟩:∃ n2,(findNd p.nodes a.dst).getD nd0=n2:=⟨_,rfl⟩
 rw [hn2]
 obtain ⟨s2,hs2⟩:∃ s2,(findNd p.nodes a.dst).isSome=s2:=⟨_,rfl⟩
 rw [hs2]
 have Hn2:=Lib.hid hn2;have Hs2:=Lib.hid hs2;clear hn2 hs2
 try clear X2l
 try clear X2a
 try clear X2b
 try clear X2c
 obtain ⟨X2l,X2a,X2b,X2c,-,-,-⟩:=X2.facts3
 try clear X6l
 try clear X6a
 try clear X6b
 try clear X6c
 try clear X6d
 try clear X6e
 try clear X6f
 obtain ⟨X6l,X6a,X6b,X6c,X6d,X6e,X6f,-,-,-,-,-,-⟩:=X6.facts6
 obtain ⟨X8l,X8a,X8b,X8c,-,-,-⟩:=X8.facts3
 go_upto_region 4 with fail
 obtain ⟨W4,hW4⟩:∃ W4:World,W4=w3.alloc (.cells #[.int .i64 n2.id,.int .i64 n2.pt.x,.int .i64 n2.pt.y] 47):=⟨_,rfl⟩
 have X10:Blk W4 w3.heap.size 47 #[.int .i64 n2.id,.int .i64 n2.pt.x,.int .i64 n2.pt.y]:=by rw [hW4];exact Blk.made rfl _ _
 have hb4:Below w3.heap.size w3 W4:=by rw [hW4];exact bA (bR w3) _
 rw [← hW4]
 clear hW4
 replace X2:=X2.keep hb4
 replace X6:=X6.keep hb4
 replace X8:=X8.keep hb4
 have HP4:=Lib.hid (HP3.out.mono hb4)
 replace Bw:=bT Bw hb4
 clear hb4
 try clear X2l
 try clear X2a
 try clear X2b
 try clear X2c
 obtain ⟨X2l,X2a,X2b,X2c,-,-,-⟩:=X2.facts3
 try clear X6l
 try clear X6a
 try clear X6b
 try clear X6c
 try clear X6d
 try clear X6e
 try clear X6f
 obtain ⟨X6l,X6a,X6b,X6c,X6d,X6e,X6f,-,-,-,-,-,-⟩:=X6.facts6
 try clear X8l
 try clear X8a
 try clear X8b
 try clear X8c
 obtain ⟨X8l,X8a,X8b,X8c,-,-,-⟩:=X8.facts3
 obtain ⟨X10l,X10a,X10b,X10c,-,-,-⟩:=X10.facts3
 go_cut [41] (fun u wx=>u=.bool (!(s && (s1 && s2)))∧wx=W4)
 case first =>
  cases s<;>cases s1<;>cases s2
  all_goals
   go_wp2_with fail
   go_meet
   case rel => exact ⟨rfl,rfl⟩
 case rest =>
  obtain ⟨rfl,rfl⟩:=hcut
  cases hsb:(s && (s1 && s2))
  case false =>
   have hf:=Lib.hid (show q=none by
    rw [← Hq.out,pathOf,Hr.out]
    cases r with
    | none=>rfl
    | some a0 =>
     have h1:=Hs.out
     have h2:=Ha.out
     simp only [Option.isSome_some,Option.getD_some] at h1 h2
     subst h1 h2
     simp only [hasEnds,Hs1.out,Hs2.out]
     simpa using hsb)
   clear hsb
   go_wp2_with fail
   go_ret2
   exact ⟨none,0,by rw [hf.out];rfl,Bw,by rw [hf.out];exact Own.nil _ _ _ _ _⟩
  case true =>
   have hsb2:s=true∧s1=true∧s2=true:=by simpa using hsb
   have hf:=Lib.hid (show q=some (n1.pt::(a.via++[n2.pt]))∧a.via.length≤1048576 by
    rw [← Hq.out,pathOf,Hr.out]
    cases r with
    | none=>have h1:=Hs.out;rw [hsb2.1] at h1;cases h1
    | some a0 =>
     have h2:=Ha.out
     simp only [Option.getD_some] at h2
     subst h2
     refine ⟨?_,HSh.out _ (findAr_mem Hr.out)⟩
     simp only [hasEnds,Hs1.out,Hs2.out,hsb2.2.1,hsb2.2.2,Bool.and_self,if_true,pathS,nodeAt,Hn1.out,Hn2.out])
   clear hsb hsb2
   go_wp2_with fail
   have hlen:=Lib.hid hf.out.2
   have hBa:Below w.heap.size w (((wc.alloc (.cells #[.int .i64 n1.pt.x,.int .i64 n1.pt.y] 42)).alloc (.cells #[.int .i64 n2.pt.x,.int .i64 n2.pt.y] 42)).alloc (.cells #[.slice (some ⟨wc.heap.size,0,none⟩) 1 1,.slice A1 a.via.length c1,.slice (some ⟨wc.heap.size+1,0,none⟩) 1 1] 25)):=bA (bA (bA Bw _) _) _
   refine (Concat_pt_spec _ [⟨[n1.pt],some ⟨wc.heap.size,0,none⟩,1⟩,⟨a.via,A1,c1⟩,⟨[n2.pt],some ⟨wc.heap.size+1,0,none⟩,1⟩] _ (Sl.lit (n:=3) (Blk.made (by simp) _ _) rfl (le_maxLen (by omega))) ?_ (by simp) (by simp) ?_).mono ?_
   ·
    intro k hk
    have hk:k<3:=hk
    rcases k with _ | _ | _ | k
    · exact Pts.one (((Blk.made rfl _ _).alloc _).alloc _)
    · exact HP4.out.mono (bA (bA (bA (bR wc) _) _) _)
    · exact Pts.one ((Blk.made (by simp) _ _).alloc _)
    · omega
   ·
    have:=hlen.out
    simp only [List.flatMap_cons,List.flatMap_nil,List.length_append,List.length_cons,List.length_nil]
    omega
   rintro e w5 ⟨v5,rfl,hb5,hown⟩
   have Bz:=hBa.size
   have ho:=hown.mono_base (b':=w.heap.size) Bz
   have B5:=bT hBa hb5
   simp only [List.flatMap_cons,List.flatMap_nil,List.append_nil,List.cons_append,List.nil_append] at ho
   have hf1:=hf.out.1
   generalize n1.pt::(a.via++[n2.pt])=PL at ho hf1
   have Hf1:=Lib.hid hf1
   obtain ⟨A5,c5,rfl,-⟩:=Own.sl ho
   have Ho:=Lib.hid ho
   have HB5:=Lib.hid B5
   clear hown ho B5 Bz hb5 hBa hf1
   go_wp2_with fail
   go_ret2
   exact ⟨A5,c5,by rw [Hf1.out];rfl,HB5.out,by rw [Hf1.out];exact Ho.out⟩
end Go.Proofs.YtpempeioeiaijaaGreat
