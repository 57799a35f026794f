import Derived.Test.YtpempeioeiaijaaGreatJ03
import Derived.Test.YtpempeioeiaijaaGreatJ05
set_option linter.unusedSimpArgs false
set_option linter.unusedVariables false
namespace Go.Proofs.YtpempeioeiaijaaGreat
open Go.RowKit

theorem shared_apart (a b c d:Pt) (h1:a.x<c.x) (h2:a.x<d.x) (h3:b.x<c.x) (h4:b.x<d.x):sharedS a b c d=0:=by
 rw [sharedS_def]
 have hac:bef a c=true:=(bef_iff a c).2 (.inl h1)
 have had:bef a d=true:=(bef_iff a d).2 (.inl h2)
 have hbc:bef b c=true:=(bef_iff b c).2 (.inl h3)
 have hbd:bef b d=true:=(bef_iff b d).2 (.inl h4)
 have hca:=bef_asym hac
 have hda:=bef_asym had
 have hcb:=bef_asym hbc
 have hdb:=bef_asym hbd
 have n1:c≠a:=fun e=>by subst e;omega
 have n2:d≠a:=fun e=>by subst e;omega
 have n3:c≠b:=fun e=>by subst e;omega
 have n4:d≠b:=fun e=>by subst e;omega
 obtain ⟨e1,e2,-⟩ | ⟨e1,e2,-⟩:=lo_hi c d<;>obtain ⟨f1,f2,-⟩ | ⟨f1,f2,-⟩:=lo_hi a b <;>
  rw [e1,e2,f1,f2]<;>simp [hi,lo,hac,had,hbc,hbd,hca,hda,hcb,hdb,n1,n2,n3,n4]

theorem conv_le {n s p q M:Int} (h0:0≤s) (h1:s≤n) (hp:p≤M) (hq:q≤M):n*p+s*(q-p)≤n*M:=by
 have e:n*M-(n*p+s*(q-p))=(n-s)*(M-p)+s*(M-q):=by grind
 have:=Int.mul_nonneg (show 0≤n-s by omega) (show 0≤M-p by omega)
 have:=Int.mul_nonneg h0 (show 0≤M-q by omega)
 omega
theorem conv_ge {n s p q M:Int} (h0:0≤s) (h1:s≤n) (hp:M≤p) (hq:M≤q):n*M≤n*p+s*(q-p):=by
 have e:(n*p+s*(q-p))-n*M=(n-s)*(p-M)+s*(q-M):=by grind
 have:=Int.mul_nonneg (show 0≤n-s by omega) (show 0≤p-M by omega)
 have:=Int.mul_nonneg h0 (show 0≤q-M by omega)
 omega
theorem conv_no {n s u p q r t:Int} (hn:0<n) (h0:0≤s) (h1:s≤n) (h2:0≤u) (h3:u≤n) (hpr:max p q<min r t)
  (e:n*p+s*(q-p)=n*r+u*(t-r)):False:=by
 have l1:=conv_le (p:=p) (q:=q) (M:=max p q) h0 h1 (by omega) (by omega)
 have l2:=conv_ge (p:=r) (q:=t) (M:=min r t) h2 h3 (by omega) (by omega)
 have:n*max p q<n*min r t:=Int.mul_lt_mul_of_pos_left hpr hn
 omega

theorem meet_apart (a b c d:Pt) (h:max a.x b.x<min c.x d.x):meetS a b c d=0:=by
 rw [meetS_eq]
 unfold rmeetS
 split
 case isFalse => rfl
 unfold rmeetN
 have id1:crossS a b c d*a.x+crossS a c c d*(b.x-a.x)=crossS a b c d*c.x+crossS a c a b*(d.x-c.x):=by unfold crossS;grind
 split
 · rfl
 split
 ·
  split
  · exact shared_apart a b c d (by omega) (by omega) (by omega) (by omega)
  · rfl
 split
 ·
  rename_i hn
  split
  ·
   rename_i hh
   obtain ⟨q1,q2,q3,q4⟩:=hh
   exact (conv_no (n:=-crossS a b c d) (s:=-crossS a c c d) (u:=-crossS a c a b) (by omega) q1 q2 q3 q4 h (by
    rw [Int.neg_mul,Int.neg_mul,Int.neg_mul,Int.neg_mul];omega)).elim
  · rfl
 ·
  rename_i h0 hn
  split
  ·
   rename_i hh
   obtain ⟨q1,q2,q3,q4⟩:=hh
   exact (conv_no (n:=crossS a b c d) (s:=crossS a c c d) (u:=crossS a c a b) (by omega) q1 q2 q3 q4 h id1).elim
  · rfl

theorem rmeetS_comm (a b c d:Pt):rmeetS a b c d=rmeetS c d a b:=by
 have hn:nears [a,b,c,d]=nears [c,d,a,b]:=by
  rw [Bool.eq_iff_iff];simp [nears];constructor<;>(rintro ⟨h1,h2,h3,h4⟩;exact ⟨h3,h4,h1,h2⟩)
 unfold rmeetS
 rw [hn]
 split
 case isFalse => rfl
 unfold rmeetN
 have e0:crossS c d a b=- crossS a b c d:=by unfold crossS;grind
 have e1:crossS c a a b=crossS a c a b*(-1):=by unfold crossS;grind
 have e2:crossS c a c d=crossS a c c d*(-1):=by unfold crossS;grind
 have e3:crossS a b c d=- crossS c d a b:=by rw [e0];omega
 by_cases h1:a=b∧c=d∧¬ a=c
 · rw [if_pos h1,if_pos ⟨h1.2.1,h1.1,fun e=>h1.2.2 e.symm⟩]
 rw [if_neg h1,if_neg (show ¬ (c=d∧a=b∧¬ c=a) from fun e=>h1 ⟨e.2.1,e.1,fun e'=>e.2.2 e'.symm⟩)]
 rw [e0,e1,e2]
 by_cases hz:crossS a b c d=0
 ·
  rw [if_pos hz,if_pos (show-crossS a b c d=0 by omega),sharedS_comm a b c d]
  by_cases hh:crossS a b a c=0∧crossS a b a d=0∧crossS c d c a=0∧crossS c d c b=0
  · rw [if_pos hh,if_pos (show crossS c d c a=0∧crossS c d c b=0∧crossS a b a c=0∧crossS a b a d=0 from ⟨hh.2.2.1,hh.2.2.2,hh.1,hh.2.1⟩)]
  · rw [if_neg hh,if_neg (show ¬ (crossS c d c a=0∧crossS c d c b=0∧crossS a b a c=0∧crossS a b a d=0) from fun e=>hh ⟨e.2.2.1,e.2.2.2,e.1,e.2.1⟩)]
 ·
  rw [if_neg hz,if_neg (show ¬ - crossS a b c d=0 by omega)]
  by_cases hneg:crossS a b c d<0
  ·
   rw [if_pos hneg,if_neg (show ¬ - crossS a b c d<0 by omega)]
   congr 1
   simp only [eq_iff_iff]
   omega
  ·
   rw [if_neg hneg,if_pos (show-crossS a b c d<0 by omega)]
   congr 1
   simp only [eq_iff_iff]
   omega
theorem meetS_comm (a b c d:Pt):meetS a b c d=meetS c d a b:=by rw [meetS_eq,meetS_eq,rmeetS_comm]

def Abs.fst (s:Abs):Pt:=s.path.getD s.k pt0
def Abs.snd (s:Abs):Pt:=s.path.getD (s.k+1) pt0
def Abs.west (s:Abs):Int:=min s.fst.x s.snd.x
def Abs.east (s:Abs):Int:=max s.fst.x s.snd.x
def Abs.sg (s:Abs):Sg:=⟨s.arc,s.k,s.path.length-1,s.fst,s.snd⟩
def chainA (a b:Abs):Bool:=decide (a.k+1=b.k) || ((a.arc.fr == a.arc.dst) && decide (a.k=0) && decide ((b.k:Int)=(b.path.length:Int)-2))
def sameArcA (m:Int) (a b:Abs):Bool:=if chainA a b then m == 1 else m == 0
def atNodeA (f:Int→Pt) (s t:Abs) (id:Int):Bool:=(id == t.arc.fr || id == t.arc.dst) && onS s.fst s.snd (f id) && onS t.fst t.snd (f id)
def compatA (f:Int→Pt) (s t:Abs):Bool :=
 if s.arc.id=t.arc.id then (if t.k<s.k then sameArcA (meetS s.fst s.snd t.fst t.snd) t s else sameArcA (meetS s.fst s.snd t.fst t.snd) s t)
 else if meetS s.fst s.snd t.fst t.snd=1 then atNodeA f s t s.arc.fr || atNodeA f s t s.arc.dst
 else meetS s.fst s.snd t.fst t.snd == 0
theorem compat_abs (f:Int→Pt) (s t:PSg):compatS f s t=compatA f s.abs t.abs:=rfl
def freeA (s:Abs) (n:Nd):Bool:=!(onS s.fst s.snd n.pt && !(((s.k:Int) == 0) && (s.arc.fr == n.id)) && !(((s.k:Int) == (s.path.length:Int)-2) && (s.arc.dst == n.id)))
def freeS (s:PSg) (n:Nd):Bool:=freeA s.abs n

def SweepP (f:Int→Pt) (nl:List Nd) (sl:List PSg):Prop :=
 (∀ i j (_:i<j) (hj:j<sl.length),westS sl[j]≤eastS (sl[i]'(by omega))→compatS f (sl[i]'(by omega)) sl[j]=true)∧∀ s∈sl,∀ n∈nl,freeS s n=true

theorem asc_pw (l:List Int) (h:asc l=true):l.Pairwise (· < ·):=by
 have h1:∀ j (hj:j+1<l.length),l[j]<l[j+1]:=fun j hj=>by
  unfold asc at h
  rw [List.all_eq_true] at h
  have:=h j (List.mem_range.2 (by omega))
  simpa [List.getD,List.getElem?_eq_getElem hj,List.getElem?_eq_getElem (show j<l.length by omega)] using this
 have h2:∀ d i (hi:i+d+1<l.length),l[i]'(by omega)<l[i+d+1]:=by
  intro d
  induction d with
  | zero=>intro i hi;exact h1 i hi
  | succ d ih=>intro i hi;have:=ih i (by omega);have:=h1 (i+d+1) (by omega);simp only [Nat.add_assoc] at *;omega
 rw [List.pairwise_iff_getElem]
 intro i j hi hj hij
 have:=h2 (j-i-1) i (by omega)
 simp only [show i+(j-i-1)+1=j by omega] at this
 exact this

theorem triB_iff {α:Type} (l:List α) (f:α→Bool) (g:α→α→Bool):triB l f g=true↔(∀ x∈l,f x=true)∧l.Pairwise (fun s t=>g s t=true):=by
 constructor
 ·
  intro h
  constructor
  ·
   intro x hx
   obtain ⟨i,hi,rfl⟩:=List.mem_iff_getElem.1 hx
   cases hf:f l[i]
   · rw [tri_f l f g i hi hf] at h;cases h
   · rfl
  ·
   rw [List.pairwise_iff_getElem]
   intro k i hk hi hki
   cases hg:g l[k] l[i]
   · rw [tri_g l f g i k hki hi hg] at h;cases h
   · rfl
 ·
  rintro ⟨h1,h2⟩
  rw [List.pairwise_iff_getElem] at h2
  exact tri_ok l f g (fun i hi=>h1 _ (List.getElem_mem hi)) (fun i k hk hi=>h2 k i (by omega) hi hk)

structure Sound (p:Pl):Prop where
 nodes:(p.nodes.map (·.id)).Pairwise (· < ·)
 arcs:(p.arcs.map (·.id)).Pairwise (· < ·)
 ends:∀ a∈p.arcs,hasEnds p a=true

theorem find_uniq {α:Type} (f:α→Int) (l:List α) (h:(l.map f).Pairwise (· < ·)) (a:α) (ha:a∈l):l.find? (fun x=>f x == f a)=some a:=by
 induction l with
 | nil=>cases ha
 | cons b l ih =>
  rw [List.map_cons,List.pairwise_cons] at h
  rcases List.mem_cons.1 ha with rfl | ha'
  · simp
  ·
   have:=h.1 (f a) (List.mem_map_of_mem ha')
   rw [List.find?_cons_of_neg (by simp;omega)]
   exact ih h.2 ha'

theorem Sound.path {p:Pl} (hp:Sound p) {a:Ar} (ha:a∈p.arcs):pathOf p a.id=some (pathS p a):=by
 unfold pathOf findAr
 rw [find_uniq (·.id) p.arcs hp.arcs a ha]
 simp [hp.ends a ha]
theorem Sound.absOf_eq {p:Pl} (hp:Sound p) {a:Ar} (ha:a∈p.arcs):absOf p a=(List.range ((pathS p a).length-1)).map fun k=>⟨a,pathS p a,k⟩:=by
 unfold absOf
 rw [hp.path ha]
 rfl
theorem Sound.mem {p:Pl} (hp:Sound p) {x:Abs} (hx:x∈p.arcs.flatMap (absOf p)):x.arc∈p.arcs∧x.path=pathS p x.arc∧x.k+1<x.path.length:=by
 obtain ⟨a,ha,hx⟩:=List.mem_flatMap.1 hx
 rw [hp.absOf_eq ha] at hx
 obtain ⟨k,hk,rfl⟩:=List.mem_map.1 hx
 have:=List.mem_range.1 hk
 exact ⟨ha,rfl,by show k+1<(pathS p a).length;omega⟩
theorem Sound.node_eq {p:Pl} (hp:Sound p) {x:Nd} (hx:x∈p.nodes):nodeAt p x.id=x.pt:=by
 unfold nodeAt findNd
 rw [find_uniq (·.id) p.nodes hp.nodes x hx]
 rfl
theorem Sound.node_of {p:Pl} (hp:Sound p) {a:Ar} (ha:a∈p.arcs):(∃ x∈p.nodes,x.id=a.fr)∧∃ x∈p.nodes,x.id=a.dst:=by
 have h:=hp.ends a ha
 unfold hasEnds at h
 rw [Bool.and_eq_true] at h
 obtain ⟨h1,h2⟩:=h
 obtain ⟨x,hx⟩:=Option.isSome_iff_exists.1 h1
 obtain ⟨y,hy⟩:=Option.isSome_iff_exists.1 h2
 exact ⟨⟨x,List.mem_of_find?_eq_some hx,by simpa using List.find?_some hx⟩,⟨y,List.mem_of_find?_eq_some hy,by simpa using List.find?_some hy⟩⟩
theorem Sound.segs {p:Pl} (hp:Sound p):segsS p=(p.arcs.flatMap (absOf p)).map Abs.sg:=by
 unfold segsS
 rw [List.map_flatMap]
 have:∀ l:List Ar,(∀ a∈l,a∈p.arcs)→l.flatMap (fun a=>segsOf a (pathS p a))=l.flatMap (fun a=>(absOf p a).map Abs.sg):=by
  intro l
  induction l with
  | nil=>intro _;rfl
  | cons a l ih =>
   intro h
   rw [List.flatMap_cons,List.flatMap_cons,ih (fun b hb=>h b (by simp [hb])),hp.absOf_eq (h a (by simp)),List.map_map]
   rfl
 exact this _ fun a ha=>ha
theorem Sound.pw {p:Pl} (hp:Sound p):(p.arcs.flatMap (absOf p)).Pairwise (fun x y=>x.arc.id=y.arc.id→x.arc=y.arc∧x.k<y.k):=by
 rw [List.pairwise_flatMap]
 constructor
 ·
  intro a ha
  rw [hp.absOf_eq ha,List.pairwise_map]
  exact List.pairwise_lt_range.imp fun h _=>⟨rfl,h⟩
 ·
  have h:=hp.arcs
  rw [List.pairwise_map] at h
  refine (List.Pairwise.and_mem.1 h).imp ?_
  rintro a b ⟨ha,hb,hlt⟩ x hx y hy he
  rw [hp.absOf_eq ha] at hx
  rw [hp.absOf_eq hb] at hy
  obtain ⟨k,-,rfl⟩:=List.mem_map.1 hx
  obtain ⟨m,-,rfl⟩:=List.mem_map.1 hy
  have he':a.id=b.id:=he
  omega

theorem Sound.fst0 {p:Pl} (hp:Sound p) {x:Abs} (hx:x∈p.arcs.flatMap (absOf p)) (h:x.k=0):x.fst=nodeAt p x.arc.fr:=by
 obtain ⟨-,h2,-⟩:=hp.mem hx
 unfold Abs.fst
 rw [h2,h]
 rfl
theorem Sound.sndL {p:Pl} (hp:Sound p) {x:Abs} (hx:x∈p.arcs.flatMap (absOf p)) (h:(x.k:Int)=(x.path.length:Int)-2):x.snd=nodeAt p x.arc.dst:=by
 obtain ⟨-,h2,h3⟩:=hp.mem hx
 unfold Abs.snd
 have:x.k+1=x.arc.via.length+1:=by rw [h2,pathS_length] at h;omega
 rw [h2,this]
 unfold pathS
 rw [List.getD_cons_succ,List.getD_eq_getElem?_getD,List.getElem?_append_right (Nat.le_refl _)]
 simp

theorem Sound.chain {p:Pl} (hp:Sound p) {x y:Abs} (hx:x∈p.arcs.flatMap (absOf p)) (hy:y∈p.arcs.flatMap (absOf p)) (ha:x.arc=y.arc) (hc:chainA x y=true):x.west≤y.east∧y.west≤x.east:=by
 have hpth:x.path=y.path:=by rw [(hp.mem hx).2.1,(hp.mem hy).2.1,ha]
 unfold chainA at hc
 rw [Bool.or_eq_true] at hc
 unfold Abs.west Abs.east
 rcases hc with hc | hc
 ·
  have hk:x.k+1=y.k:=by simpa using hc
  have e:x.snd=y.fst:=by unfold Abs.snd Abs.fst;rw [hpth,hk]
  rw [e];omega
 ·
  simp only [Bool.and_eq_true,decide_eq_true_eq,beq_iff_eq] at hc
  obtain ⟨⟨h1,h2⟩,h3⟩:=hc
  have e:x.fst=y.snd:=by rw [hp.fst0 hx h2,hp.sndL hy h3,h1,ha]
  rw [e];omega

theorem Sound.apart_ok {p:Pl} (hp:Sound p) (f:Int→Pt) {x y:Abs} (hx:x∈p.arcs.flatMap (absOf p)) (hy:y∈p.arcs.flatMap (absOf p)) (hd:x.arc.id=y.arc.id→x.arc=y.arc) (h:x.east<y.west):compatA f x y=true:=by
 have hm:meetS x.fst x.snd y.fst y.snd=0:=meet_apart _ _ _ _ h
 have hle:y.west≤y.east:=by unfold Abs.west Abs.east;omega
 have hle':x.west≤x.east:=by unfold Abs.west Abs.east;omega
 unfold compatA
 rw [hm]
 by_cases hid:x.arc.id=y.arc.id
 ·
  have ha:=hd hid
  rw [if_pos hid]
  have n1:chainA x y=false:=by
   rw [← Bool.not_eq_true];intro hc;have:=hp.chain hx hy ha hc;omega
  have n2:chainA y x=false:=by
   rw [← Bool.not_eq_true];intro hc;have:=hp.chain hy hx ha.symm hc;omega
  simp [sameArcA,n1,n2]
 · simp [hid]

theorem Sound.sym {p:Pl} {x y:Abs} (hd:x.arc.id=y.arc.id→x.k≠y.k):compatA (nodeAt p) x y=compatA (nodeAt p) y x:=by
 unfold compatA
 rw [meetS_comm y.fst y.snd x.fst x.snd]
 by_cases hid:x.arc.id=y.arc.id
 ·
  have hk:=hd hid
  rw [if_pos hid,if_pos hid.symm]
  by_cases hlt:y.k<x.k
  · rw [if_pos hlt,if_neg (show ¬ x.k<y.k by omega)]
  · rw [if_neg hlt,if_pos (show x.k<y.k by omega)]
 ·
  rw [if_neg hid,if_neg (show ¬ y.arc.id=x.arc.id from fun e=>hid e.symm)]
  split
  ·
   rw [Bool.eq_iff_iff]
   simp only [atNodeA,Bool.or_eq_true,Bool.and_eq_true,beq_iff_eq]
   constructor
   · rintro (⟨⟨h1,h2⟩,h3⟩ | ⟨⟨h1,h2⟩,h3⟩)<;>rcases h1 with h1 | h1<;>rw [h1] at h2 h3<;>simp [h1,h2,h3]
   · rintro (⟨⟨h1,h2⟩,h3⟩ | ⟨⟨h1,h2⟩,h3⟩)<;>rcases h1 with h1 | h1<;>rw [h1] at h2 h3<;>simp [h1,h2,h3]
  · rfl

theorem Sound.pair {p:Pl} (hp:Sound p) {x y:Abs} (hx:x∈p.arcs.flatMap (absOf p)) (hy:y∈p.arcs.flatMap (absOf p)) (hd:x.arc.id=y.arc.id→x.arc=y.arc∧x.k<y.k):pairR p x.sg y.sg=compatA (nodeAt p) x y:=by
 obtain ⟨mx,px,kx⟩:=hp.mem hx
 obtain ⟨my,py,ky⟩:=hp.mem hy
 unfold pairR compatA
 show (if x.arc.id=y.arc.id then _ else _)=_
 by_cases hid:x.arc.id=y.arc.id
 ·
  obtain ⟨ha,hk⟩:=hd hid
  rw [if_pos hid,if_pos hid,if_neg (show ¬ y.k<x.k by omega)]
  unfold apartS sameArcA chainA
  rw [meetS_eq]
  show (if y.k=x.k+1∨(x.k=0∧y.k+1=y.path.length-1∧x.arc.fr=x.arc.dst) then rmeetS x.fst x.snd y.fst y.snd == 1 else rmeetS x.fst x.snd y.fst y.snd == 0)=_
  have:(y.k=x.k+1∨(x.k=0∧y.k+1=y.path.length-1∧x.arc.fr=x.arc.dst))↔(decide (x.k+1=y.k) || ((x.arc.fr == x.arc.dst) && decide (x.k=0) && decide ((y.k:Int)=(y.path.length:Int)-2)))=true:=by
   simp only [Bool.or_eq_true,Bool.and_eq_true,decide_eq_true_eq,beq_iff_eq]
   constructor
   ·
    rintro (h | ⟨h1,h2,h3⟩)
    · left;omega
    · right;exact ⟨⟨h3,h1⟩,by omega⟩
   ·
    rintro (h | ⟨⟨h1,h2⟩,h3⟩)
    · left;omega
    · right;exact ⟨h2,by omega,h1⟩
  simp only [this]
 ·
  rw [if_neg hid,if_neg hid]
  unfold joinedS
  rw [meetS_eq]
  show (if rmeetS x.fst x.snd y.fst y.snd=1 then _ else rmeetS x.fst x.snd y.fst y.snd == 0)=_
  split
  ·
   rw [Bool.eq_iff_iff,List.any_eq_true]
   simp only [meetAt,endsS,atNodeA,Bool.or_eq_true,Bool.and_eq_true,beq_iff_eq,Abs.sg,← onS_eq]
   constructor
   ·
    rintro ⟨n,hn,⟨⟨⟨h1,h2⟩,h3⟩,h4⟩⟩
    have hpt:=hp.node_eq hn
    rw [← hpt] at h3 h4
    rcases h1 with h1 | h1
    ·
     left
     rw [h1]
     exact ⟨⟨by rcases h2 with h2 | h2<;>simp [h2],h3⟩,h4⟩
    ·
     right
     rw [h1]
     exact ⟨⟨by rcases h2 with h2 | h2<;>simp [h2],h3⟩,h4⟩
   ·
    obtain ⟨⟨n1,hn1,e1⟩,⟨n2,hn2,e2⟩⟩:=hp.node_of mx
    rintro (⟨⟨h1,h2⟩,h3⟩ | ⟨⟨h1,h2⟩,h3⟩)
    ·
     refine ⟨n1,hn1,⟨⟨⟨.inl e1.symm,by rcases h1 with h1 | h1<;>simp [e1,h1]⟩,?_⟩,?_⟩⟩
     · rw [← hp.node_eq hn1,e1];exact h2
     · rw [← hp.node_eq hn1,e1];exact h3
    ·
     refine ⟨n2,hn2,⟨⟨⟨.inr e2.symm,by rcases h1 with h1 | h1<;>simp [e2,h1]⟩,?_⟩,?_⟩⟩
     · rw [← hp.node_eq hn2,e2];exact h2
     · rw [← hp.node_eq hn2,e2];exact h3
  · rfl

theorem Sound.free {p:Pl} (hp:Sound p) {x:Abs} (hx:x∈p.arcs.flatMap (absOf p)) (n:Nd):freeA x n=offNd x.sg n:=by
 obtain ⟨mx,px,kx⟩:=hp.mem hx
 unfold freeA offNd isEnd
 rw [onS_eq]
 show _=((((x.k:Int) == 0) && (x.arc.fr == n.id)) || (((x.k:Int) == ((x.path.length-1:Nat):Int)-1) && (x.arc.dst == n.id)) || !ronS x.fst x.snd n.pt)
 rw [show ((x.path.length-1:Nat):Int)-1=(x.path.length:Int)-2 by omega]
 cases ronS x.fst x.snd n.pt<;>cases (((x.k:Int) == 0) && (x.arc.fr == n.id))<;>cases (((x.k:Int) == (x.path.length:Int)-2) && (x.arc.dst == n.id))<;>rfl

theorem Sound.arcs_ok {p:Pl} (hp:Sound p):p.arcs.all (arcOk p)=true↔∀ x∈p.arcs.flatMap (absOf p),soundS x.sg=true:=by
 rw [List.all_eq_true]
 constructor
 ·
  intro h x hx
  obtain ⟨mx,px,kx⟩:=hp.mem hx
  have ha:=h _ mx
  unfold arcOk at ha
  rw [hp.path mx] at ha
  simp only [Bool.and_eq_true,Bool.not_eq_true',Bool.and_eq_false_iff,beq_eq_false_iff_ne,decide_eq_false_iff_not] at ha
  obtain ⟨h1,h2⟩:=ha
  rw [← px] at h1 h2
  unfold soundS
  simp only [Bool.and_eq_true,Bool.not_eq_true',decide_eq_false_iff_not,Bool.or_eq_true,bne_iff_ne,decide_eq_true_eq]
  show ¬ x.fst=x.snd∧(x.arc.fr≠x.arc.dst∨3≤((x.path.length-1:Nat):Int))
  constructor
  ·
   intro e
   unfold distinctB at h2
   rw [List.all_eq_true] at h2
   have:=h2 x.k (List.mem_range.2 (by omega))
   simp only [Bool.not_eq_true',decide_eq_false_iff_not] at this
   exact this e
  ·
   rcases h1 with h1 | h1
   · exact .inl h1
   · right;omega
 ·
  intro h a ha
  unfold arcOk
  rw [hp.path ha]
  have hmem:∀ k,k+1<(pathS p a).length→(⟨a,pathS p a,k⟩:Abs)∈p.arcs.flatMap (absOf p):=fun k hk=>by
   refine List.mem_flatMap.2 ⟨a,ha,?_⟩
   rw [hp.absOf_eq ha]
   exact List.mem_map.2 ⟨k,List.mem_range.2 (by omega),rfl⟩
  have hs:∀ k,k+1<(pathS p a).length→¬ (pathS p a).getD k pt0=(pathS p a).getD (k+1) pt0∧(a.fr≠a.dst∨3≤(((pathS p a).length-1:Nat):Int)):=fun k hk=>by
   have:=h _ (hmem k hk)
   unfold soundS at this
   simp only [Bool.and_eq_true,Bool.not_eq_true',decide_eq_false_iff_not,Bool.or_eq_true,bne_iff_ne,decide_eq_true_eq] at this
   exact this
  have hl:=pathS_length p a
  simp only [Bool.and_eq_true,Bool.not_eq_true',Bool.and_eq_false_iff,beq_eq_false_iff_ne,decide_eq_false_iff_not]
  constructor
  ·
   rcases (hs 0 (by omega)).2 with h1 | h1
   · exact .inl h1
   · right;omega
  ·
   unfold distinctB
   rw [List.all_eq_true]
   intro k hk
   have hk:=List.mem_range.1 hk
   simpa using (hs k (by omega)).1

theorem Sound.planar_yes {p:Pl} (hp:Sound p) (hok:p.arcs.all (arcOk p)=true) (sl:List PSg) (hs:(sl.map PSg.abs).Perm (p.arcs.flatMap (absOf p))):SweepP (nodeAt p) p.nodes sl↔planarR p=true:=by
 generalize hL:p.arcs.flatMap (absOf p)=L at *
 have hmemL:∀ {x},x∈L→x∈p.arcs.flatMap (absOf p):=fun h=>by rw [hL];exact h
 have hpw:L.Pairwise (fun x y=>x.arc.id=y.arc.id→x.arc=y.arc∧x.k<y.k):=by rw [← hL];exact hp.pw
 have hdist:L.Pairwise (fun x y=>x.arc.id=y.arc.id→x.arc=y.arc∧x.k≠y.k):=hpw.imp fun h e=>⟨(h e).1,by have:=(h e).2;omega⟩
 have hdistS:(sl.map PSg.abs).Pairwise (fun x y=>x.arc.id=y.arc.id→x.arc=y.arc∧x.k≠y.k) :=
  (hs.pairwise_iff (fun h e=>⟨(h e.symm).1.symm,fun e'=>(h e.symm).2 e'.symm⟩)).2 hdist
 have hmemS:∀ {x},x∈sl.map PSg.abs→x∈p.arcs.flatMap (absOf p):=fun h=>hmemL (hs.mem_iff.1 h)
 let R:Abs→Abs→Prop:=fun x y=>compatA (nodeAt p) x y=true∧compatA (nodeAt p) y x=true
 have h1:(sl.map PSg.abs).Pairwise R↔L.Pairwise R:=hs.pairwise_iff (fun h=>⟨h.2,h.1⟩)
 have h2:L.Pairwise R↔(L.map Abs.sg).Pairwise (fun s t=>pairR p s t=true):=by
  rw [List.pairwise_map,List.pairwise_iff_getElem,List.pairwise_iff_getElem]
  rw [List.pairwise_iff_getElem] at hpw
  constructor
  ·
   intro h i j hi hj hij
   rw [hp.pair (hmemL (List.getElem_mem hi)) (hmemL (List.getElem_mem hj)) (hpw i j hi hj hij)]
   exact (h i j hi hj hij).1
  ·
   intro h i j hi hj hij
   have hh:=h i j hi hj hij
   have ho:=hpw i j hi hj hij
   rw [hp.pair (hmemL (List.getElem_mem hi)) (hmemL (List.getElem_mem hj)) ho] at hh
   refine ⟨hh,?_⟩
   rw [← Sound.sym (p:=p) (fun e=>by have:=(ho e).2;omega)]
   exact hh
 have h3:(∀ i j (_:i<j) (hj:j<sl.length),westS sl[j]≤eastS (sl[i]'(by omega))→compatS (nodeAt p) (sl[i]'(by omega)) sl[j]=true)↔(sl.map PSg.abs).Pairwise R:=by
  rw [List.pairwise_iff_getElem]
  rw [List.pairwise_iff_getElem] at hdistS
  constructor
  ·
   intro h i j hi hj hij
   have hj':j<sl.length:=by simpa using hj
   have mi:=hmemS (List.getElem_mem hi)
   have mj:=hmemS (List.getElem_mem hj)
   have hd:=hdistS i j hi hj hij
   have hc:compatA (nodeAt p) ((sl.map PSg.abs)[i]) ((sl.map PSg.abs)[j])=true:=by
    by_cases hw:westS sl[j]≤eastS (sl[i]'(by omega))
    ·
     have:=h i j hij hj' hw
     rw [compat_abs] at this
     simpa using this
    ·
     refine hp.apart_ok (nodeAt p) mi mj (fun e=>(hd e).1) ?_
     have hlt:eastS (sl[i]'(by omega))<westS sl[j]:=by omega
     rw [List.getElem_map,List.getElem_map]
     exact hlt
   refine ⟨hc,?_⟩
   rw [← Sound.sym (p:=p) (fun e=>(hd e).2)]
   exact hc
  ·
   intro h i j hij hj _
   have:=(h i j (by simp;omega) (by simpa using hj) hij).1
   rw [compat_abs]
   simpa using this
 have h4:(∀ s∈sl,∀ n∈p.nodes,freeS s n=true)↔∀ x∈L,p.nodes.all (offNd x.sg)=true:=by
  constructor
  ·
   intro h x hx
   rw [List.all_eq_true]
   intro n hn
   obtain ⟨s,hs',rfl⟩:=List.mem_map.1 (hs.mem_iff.2 hx)
   rw [← hp.free (hmemL hx)]
   exact h s hs' n hn
  ·
   intro h s hs' n hn
   have hx:=hs.mem_iff.1 (List.mem_map_of_mem (f:=PSg.abs) hs')
   have:=List.all_eq_true.1 (h _ hx) n hn
   unfold freeS
   rw [hp.free (hmemL hx)]
   exact this
 unfold SweepP planarR
 rw [hp.segs,hL,triB_iff,h3,h1,h2,h4,and_comm]
 refine and_congr_left fun _=>?_
 constructor
 ·
  intro h s hs'
  obtain ⟨x,hx,rfl⟩:=List.mem_map.1 hs'
  unfold aloneS
  rw [h x hx,hp.arcs_ok.1 hok x (hmemL hx)]
  rfl
 ·
  intro h x hx
  have:=h _ (List.mem_map_of_mem (f:=Abs.sg) hx)
  unfold aloneS at this
  rw [Bool.and_eq_true] at this
  exact this.1
theorem Sound.planar_no {p:Pl} (hp:Sound p) (hok:p.arcs.all (arcOk p)=false):planarR p=false:=by
 rw [← Bool.not_eq_true]
 intro h
 unfold planarR at h
 rw [triB_iff,hp.segs] at h
 have:p.arcs.all (arcOk p)=true:=hp.arcs_ok.2 fun x hx=>by
  have:=h.1 _ (List.mem_map_of_mem (f:=Abs.sg) hx)
  unfold aloneS at this
  rw [Bool.and_eq_true] at this
  exact this.2
 rw [hok] at this
 cases this

def lastAt (l:List Nd):Int→Pt:=l.foldl (fun f n=>fun i=>if i=n.id then n.pt else f i) (fun _=>z0)
theorem lastAt_succ (l:List Nd) (k:Nat) (hk:k<l.length):lastAt (l.take (k+1))=fun i=>if i=l[k].id then l[k].pt else lastAt (l.take k) i:=by
 unfold lastAt
 rw [List.take_succ_eq_append_getElem hk,List.foldl_append]
 rfl
theorem lastAt_eq (p:Pl) (h:(p.nodes.map (·.id)).Pairwise (· < ·)):lastAt p.nodes=nodeAt p:=by
 unfold nodeAt findNd
 generalize p.nodes=l at *
 have gen:∀ (l:List Nd) (f:Int→Pt),(l.map (·.id)).Pairwise (· < ·)→∀ i,(l.foldl (fun f n=>fun i=>if i=n.id then n.pt else f i) f) i=match l.find? (fun n=>n.id == i) with | some n=>n.pt | none=>f i:=by
  intro l
  induction l with
  | nil=>intro f _ i;rfl
  | cons a l ih =>
   intro f h i
   rw [List.map_cons,List.pairwise_cons] at h
   rw [List.foldl_cons,ih _ h.2]
   by_cases e:a.id=i
   ·
    rw [List.find?_cons_of_pos (by simp [e])]
    have:l.find? (fun n=>n.id == i)=none:=by
     rw [List.find?_eq_none]
     intro x hx
     have:=h.1 x.id (List.mem_map_of_mem hx)
     simp;omega
    rw [this]
    simp [e]
   ·
    rw [List.find?_cons_of_neg (by simp [e])]
    split
    · rfl
    · rw [if_neg (fun e'=>e e'.symm)]
 funext i
 have:=gen l (fun _=>z0) h i
 unfold lastAt
 rw [this]
 cases l.find? (fun n=>n.id == i)<;>rfl
end Go.Proofs.YtpempeioeiaijaaGreat
