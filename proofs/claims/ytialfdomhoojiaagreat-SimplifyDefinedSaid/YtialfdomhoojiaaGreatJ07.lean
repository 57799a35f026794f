import Derived.Test.YtialfdomhoojiaaGreatJ06
import Derived.Shelf.SlSortCmp.NoneTotal
import Derived.Test.YtialfdomhoojiaaGreatLaySort
set_option linter.unusedSimpArgs false
set_option linter.unusedVariables false
namespace Go.Proofs.YtialfdomhoojiaaGreat
open Go.RowKit
theorem ak4 (a b c d:Pt) (h1:a.x<c.x) (h2:a.x<d.x) (h3:b.x<c.x) (h4:b.x<d.x):mO a b c d=0:=by
 rw [CX];have hac:bF a c=true:=(oP a c).2 (.inl h1);have had:bF a d=true:=(oP a d).2 (.inl h2);have hbc:bF b c=true:=(oP b c).2 (.inl h3);have hbd:bF b d=true:=(oP b d).2 (.inl h4);have hca:=sW hac;have hda:=sW had;have hcb:=sW hbc;have hdb:=sW hbd;have n1:c≠a:=fun e=>by subst e;omega
 have n2:d≠a:=fun e=>by subst e;omega
 have n3:c≠b:=fun e=>by subst e;omega
 have n4:d≠b:=fun e=>by subst e;omega
 obtain ⟨e1,e2,-⟩ | ⟨e1,e2,-⟩:=Fg c d<;>obtain ⟨f1,f2,-⟩ | ⟨f1,f2,-⟩:=Fg a b <;>
  rw [e1,e2,f1,f2]<;>simp [hi,lo,hac,had,hbc,hbd,hca,hda,hcb,hdb,n1,n2,n3,n4]
theorem ak5 {n s p q M:Int} (h0:0<=s) (h1:s<=n) (hp:p<=M) (hq:q<=M):n*p+s*(q-p)<=n*M:=by
 have e:n*M-(n*p+s*(q-p))=(n-s)*(M-p)+s*(M-q):=by grind
 have:=Int.mul_nonneg (show 0<=n-s by omega) (show 0<=M-p by omega)
 have:=Int.mul_nonneg h0 (show 0<=M-q by omega)
 omega
theorem ak6 {n s p q M:Int} (h0:0<=s) (h1:s<=n) (hp:M<=p) (hq:M<=q):n*M<=n*p+s*(q-p):=by
 have e:(n*p+s*(q-p))-n*M=(n-s)*(p-M)+s*(q-M):=by grind
 have:=Int.mul_nonneg (show 0<=n-s by omega) (show 0<=p-M by omega)
 have:=Int.mul_nonneg h0 (show 0<=q-M by omega)
 omega
theorem aec {n s u p q r t:Int} (hn:0<n) (h0:0<=s) (h1:s<=n) (h2:0<=u) (h3:u<=n) (hpr:max p q<min r t)
  (e:n*p+s*(q-p)=n*r+u*(t-r)):False:=by
 have l1:=ak5 (p:=p) (q:=q) (M:=max p q) h0 h1 Pe Pe;have l2:=ak6 (p:=r) (q:=t) (M:=min r t) h2 h3 Pe Pe
 have:n*max p q<n*min r t:=Int.mul_lt_mul_of_pos_left hpr hn
 omega
theorem ak7 (a b c d:Pt) (h:max a.x b.x<min c.x d.x):lq a b c d=0:=by
 rw [PW];unfold iQ;split
 case isFalse => rfl
 unfold pG;have id1:aP a b c d*a.x+aP a c c d*(b.x-a.x)=aP a b c d*c.x+aP a c a b*(d.x-c.x):=by unfold aP;grind
 split
 · rfl
 split
 ·split
  · exact ak4 a b c d Pe Pe Pe Pe
  · rfl
 split
 ·rename_i hn;split
  ·rename_i hh;obtain ⟨q1,q2,q3,q4⟩:=hh;exact (aec (n:=-aP a b c d) (s:=-aP a c c d) (u:=-aP a c a b) Pe q1 q2 q3 q4 h (by
    rw [Int.neg_mul,Int.neg_mul,Int.neg_mul,Int.neg_mul];omega)).elim
  · rfl
 ·rename_i h0 hn;split
  ·rename_i hh;obtain ⟨q1,q2,q3,q4⟩:=hh;exact (aec (n:=aP a b c d) (s:=aP a c c d) (u:=aP a c a b) Pe q1 q2 q3 q4 h id1).elim
  · rfl
theorem ak8 (a b c d:Pt):iQ a b c d=iQ c d a b:=by
 have hn:eu [a,b,c,d]=eu [c,d,a,b]:=by
  rw [Bool.eq_iff_iff];simp [eu];constructor<;>(rintro ⟨h1,h2,h3,h4⟩;exact ⟨h3,h4,h1,h2⟩)
 unfold iQ;rw [hn];split
 case isFalse => rfl
 unfold pG;have e0:aP c d a b=- aP a b c d:=by unfold aP;grind
 have e1:aP c a a b=aP a c a b*(-1):=by unfold aP;grind
 have e2:aP c a c d=aP a c c d*(-1):=by unfold aP;grind
 have e3:aP a b c d=- aP c d a b:=by rw [e0];omega
 by_cases h1:a=b/\c=d/\¬ a=c
 · rw [if_pos h1,if_pos ⟨h1.2.1,h1.1,fun e=>h1.2.2 e.symm⟩]
 rw [if_neg h1,if_neg (show ¬ (c=d/\a=b/\¬ c=a) from fun e=>h1 ⟨e.2.1,e.1,fun e'=>e.2.2 e'.symm⟩)];rw [e0,e1,e2];by_cases hz:aP a b c d=0
 ·rw [if_pos hz,if_pos (show-aP a b c d=0 by omega),D8 a b c d];by_cases hh:aP a b a c=0/\aP a b a d=0/\aP c d c a=0/\aP c d c b=0
  · rw [if_pos hh,if_pos (show aP c d c a=0/\aP c d c b=0/\aP a b a c=0/\aP a b a d=0 from ⟨hh.2.2.1,hh.2.2.2,hh.1,hh.2.1⟩)]
  · rw [if_neg hh,if_neg (show ¬ (aP c d c a=0/\aP c d c b=0/\aP a b a c=0/\aP a b a d=0) from fun e=>hh ⟨e.2.2.1,e.2.2.2,e.1,e.2.1⟩)]
 ·rw [if_neg hz,if_neg (show ¬ - aP a b c d=0 by omega)];by_cases hneg:aP a b c d<0
  ·rw [if_pos hneg,if_neg (show ¬ - aP a b c d<0 by omega)];congr 1;simp only [eq_iff_iff];omega
  ·rw [if_neg hneg,if_pos (show-aP a b c d<0 by omega)];congr 1;simp only [eq_iff_iff];omega
theorem ak9 (a b c d:Pt):lq a b c d=lq c d a b:=by rw [PW,PW,ak8]
def iY.fst (s:iY):Pt:=s.path.getD s.k aA
def iY.snd (s:iY):Pt:=s.path.getD (s.k+1) aA
def iY.west (s:iY):Int:=min s.fst.x s.snd.x
def iY.east (s:iY):Int:=max s.fst.x s.snd.x
def iY.sg (s:iY):Sg:=⟨s.arc,s.k,s.path.length-1,s.fst,s.snd⟩
def NR (a b:iY):Bool:=decide (a.k+1=b.k) || ((a.arc.fr == a.arc.dst) && decide (a.k=0) && decide ((b.k:Int)=(b.path.length:Int)-2))
def UZ (m:Int) (a b:iY):Bool:=if NR a b then m == 1 else m == 0
def U0 (f:Int->Pt) (s t:iY) (id:Int):Bool:=(id == t.arc.fr || id == t.arc.dst) && dQ s.fst s.snd (f id) && dQ t.fst t.snd (f id)
def Df (f:Int->Pt) (s t:iY):Bool :=
 if s.arc.id=t.arc.id then (if t.k<s.k then UZ (lq s.fst s.snd t.fst t.snd) t s else UZ (lq s.fst s.snd t.fst t.snd) s t)
 else if lq s.fst s.snd t.fst t.snd=1 then U0 f s t s.arc.fr || U0 f s t s.arc.dst
 else lq s.fst s.snd t.fst t.snd == 0
theorem aed (f:Int->Pt) (s t:dO):rF f s t=Df f s.abs t.abs:=rfl
def ZV (s:iY) (n:Nd):Bool:=!(dQ s.fst s.snd n.pt && !(((s.k:Int) == 0) && (s.arc.fr == n.id)) && !(((s.k:Int) == (s.path.length:Int)-2) && (s.arc.dst == n.id)))
def ou (s:dO) (n:Nd):Bool:=ZV s.abs n
def aee (f:Int->Pt) (nl:List Nd) (sl:List dO):Prop :=
 (∀ i j (_:i<j) (hj:j<sl.length),kK sl[j]<=rE (sl[i]'(by omega))->rF f (sl[i]'(by omega)) sl[j]=true)/\∀ s∈sl,∀ n∈nl,ou s n=true
theorem Qj (l:List Int) (h:sV l=true):l.Pairwise (· < ·):=by
 have h1:∀ j (hj:j+1<l.length),l[j]<l[j+1]:=fun j hj=>by
  unfold sV at h;rw [awh] at h;have:=h j (List.mem_range.2 Pe)
  simpa [List.getD,avG hj,avG (show j<l.length by omega)] using this
 have h2:∀ d i (hi:i+d+1<l.length),l[i]'(by omega)<l[i+d+1]:=by
  intro d
  induction d with
  | zero=>intro i hi;exact h1 i hi
  | succ d ih=>intro i hi;have:=ih i Pe;have:=h1 (i+d+1) Pe;simp only [Nat.add_assoc] at *;omega
 rw [avJ];intro i j hi hj hij;have:=h2 (j-i-1) i Pe
 simp only [show i+(j-i-1)+1=j by omega] at this;exact this
theorem ZW {α:Type} (l:List α) (f:α->Bool) (g:α->α->Bool):Iz l f g=true↔(∀ x∈l,f x=true)/\l.Pairwise (fun s t=>g s t=true):=by
 constructor
 ·intro h;constructor
  ·intro x hx;obtain ⟨i,hi,rfl⟩:=avI.1 hx
   cases hf:f l[i]
   · rw [adS l f g i hi hf] at h;cases h
   · rfl
  ·rw [avJ];intro k i hk hi hki
   cases hg:g l[k] l[i]
   · rw [adT l f g i k hki hi hg] at h;cases h
   · rfl
 ·rintro ⟨h1,h2⟩;rw [avJ] at h2;exact adU l f g (fun i hi=>h1 _ (avF hi)) (fun i k hk hi=>h2 k i Pe hi hk)
structure Sound (p:Pl):Prop where
 nodes:(p.nodes.map (·.id)).Pairwise (· < ·)
 aj:(p.aj.map (·.id)).Pairwise (· < ·)
 ends:∀ a∈p.aj,jD p a=true
theorem U1 {α:Type} (f:α->Int) (l:List α) (h:(l.map f).Pairwise (· < ·)) (a:α) (ha:a∈l):l.find? (fun x=>f x == f a)=some a:=by
 induction l with
 | nil=>cases ha
 | cons b l ih =>
  rw [List.map_cons,List.pairwise_cons] at h;rcases av2.1 ha with rfl | ha'
  · simp
  ·have:=h.1 (f a) (awd ha')
   rw [List.find?_cons_of_neg arV];exact ih h.2 ha'
theorem Sound.path {p:Pl} (hp:Sound p) {a:Ar} (ha:a∈p.aj):pathOf p a.id=some (au p a):=by
 unfold pathOf findAr;rw [U1 (·.id) p.aj hp.aj a ha];simp [hp.ends a ha]
theorem Sound.NS {p:Pl} (hp:Sound p) {a:Ar} (ha:a∈p.aj):iC p a=(List.range ((au p a).length-1)).map fun k=>⟨a,au p a,k⟩:=by
 unfold iC;rw [hp.path ha];rfl
theorem Sound.mem {p:Pl} (hp:Sound p) {x:iY} (hx:x∈p.aj.flatMap (iC p)):x.arc∈p.aj/\x.path=au p x.arc/\x.k+1<x.path.length:=by
 obtain ⟨a,ha,hx⟩:=List.mem_flatMap.1 hx;rw [hp.NS ha] at hx;obtain ⟨k,hk,rfl⟩:=av6.1 hx;have:=List.mem_range.1 hk
 exact ⟨ha,rfl,by show k+1<(au p a).length;omega⟩
theorem Sound.uI {p:Pl} (hp:Sound p) {x:Nd} (hx:x∈p.nodes):nodeAt p x.id=x.pt:=by
 unfold nodeAt mP;rw [U1 (·.id) p.nodes hp.nodes x hx];rfl
theorem Sound.U2 {p:Pl} (hp:Sound p) {a:Ar} (ha:a∈p.aj):(∃ x∈p.nodes,x.id=a.fr)/\∃ x∈p.nodes,x.id=a.dst:=by
 have h:=hp.ends a ha;unfold jD at h;rw [avR] at h;obtain ⟨h1,h2⟩:=h;obtain ⟨x,hx⟩:=Option.isSome_iff_exists.1 h1;obtain ⟨y,hy⟩:=Option.isSome_iff_exists.1 h2;exact ⟨⟨x,List.mem_of_find?_eq_some hx,by simpa using List.find?_some hx⟩,⟨y,List.mem_of_find?_eq_some hy,by simpa using List.find?_some hy⟩⟩
theorem Sound.wH {p:Pl} (hp:Sound p):Bh p=(p.aj.flatMap (iC p)).map iY.sg:=by
 unfold Bh;rw [List.map_flatMap];have:∀ l:List Ar,(∀ a∈l,a∈p.aj)->l.flatMap (fun a=>nY a (au p a))=l.flatMap (fun a=>(iC p a).map iY.sg):=by
  intro l
  induction l with
  | nil=>intro _;rfl
  | cons a l ih =>
   intro h;rw [av5,av5,ih (fun b hb=>h b (by simp [hb])),hp.NS (h a ars),awc];rfl
 exact this _ fun a ha=>ha
theorem Sound.pw {p:Pl} (hp:Sound p):(p.aj.flatMap (iC p)).Pairwise (fun x y=>x.arc.id=y.arc.id->x.arc=y.arc/\x.k<y.k):=by
 rw [List.pairwise_flatMap];constructor
 ·intro a ha;rw [hp.NS ha,List.pairwise_map];exact List.pairwise_lt_range.imp fun h _=>⟨rfl,h⟩
 ·have h:=hp.aj;rw [List.pairwise_map] at h;refine (List.Pairwise.and_mem.1 h).imp ?_;rintro a b ⟨ha,hb,hlt⟩ x hx y hy he;rw [hp.NS ha] at hx;rw [hp.NS hb] at hy;obtain ⟨k,-,rfl⟩:=av6.1 hx;obtain ⟨m,-,rfl⟩:=av6.1 hy;have he':a.id=b.id:=he;omega
theorem Sound.ala {p:Pl} (hp:Sound p) {x:iY} (hx:x∈p.aj.flatMap (iC p)) (h:x.k=0):x.fst=nodeAt p x.arc.fr:=by
 obtain ⟨-,h2,-⟩:=hp.mem hx;unfold iY.fst;rw [h2,h];rfl
theorem Sound.alb {p:Pl} (hp:Sound p) {x:iY} (hx:x∈p.aj.flatMap (iC p)) (h:(x.k:Int)=(x.path.length:Int)-2):x.snd=nodeAt p x.arc.dst:=by
 obtain ⟨-,h2,h3⟩:=hp.mem hx;unfold iY.snd
 have:x.k+1=x.arc.via.length+1:=by rw [h2,ig] at h;omega
 rw [h2,this];unfold au;rw [List.getD_cons_succ,avT,List.getElem?_append_right (awe _)];simp
theorem Sound.chain {p:Pl} (hp:Sound p) {x y:iY} (hx:x∈p.aj.flatMap (iC p)) (hy:y∈p.aj.flatMap (iC p)) (ha:x.arc=y.arc) (hc:NR x y=true):x.west<=y.east/\y.west<=x.east:=by
 have alc:x.path=y.path:=by rw [(hp.mem hx).2.1,(hp.mem hy).2.1,ha]
 unfold NR at hc;rw [Bool.or_eq_true] at hc;unfold iY.west iY.east;rcases hc with hc | hc
 ·have hk:x.k+1=y.k:=by simpa using hc
  have e:x.snd=y.fst:=by unfold iY.snd iY.fst;rw [alc,hk]
  rw [e];omega
 ·simp only [avR,avQ,beq_iff_eq] at hc;obtain ⟨⟨h1,h2⟩,h3⟩:=hc;have e:x.fst=y.snd:=by rw [hp.ala hx h2,hp.alb hy h3,h1,ha]
  rw [e];omega
theorem Sound.ald {p:Pl} (hp:Sound p) (f:Int->Pt) {x y:iY} (hx:x∈p.aj.flatMap (iC p)) (hy:y∈p.aj.flatMap (iC p)) (hd:x.arc.id=y.arc.id->x.arc=y.arc) (h:x.east<y.west):Df f x y=true:=by
 have hm:lq x.fst x.snd y.fst y.snd=0:=ak7 _ _ _ _ h;have hle:y.west<=y.east:=by unfold iY.west iY.east;omega
 have hle':x.west<=x.east:=by unfold iY.west iY.east;omega
 unfold Df;rw [hm];by_cases hid:x.arc.id=y.arc.id
 ·have ha:=hd hid;rw [if_pos hid];have n1:NR x y=false:=by
   rw [<- Bool.not_eq_true];intro hc;have:=hp.chain hx hy ha hc;omega
  have n2:NR y x=false:=by
   rw [<- Bool.not_eq_true];intro hc;have:=hp.chain hy hx ha.symm hc;omega
  simp [UZ,n1,n2]
 · simp [hid]
theorem Sound.sym {p:Pl} {x y:iY} (hd:x.arc.id=y.arc.id->x.k≠y.k):Df (nodeAt p) x y=Df (nodeAt p) y x:=by
 unfold Df;rw [ak9 y.fst y.snd x.fst x.snd];by_cases hid:x.arc.id=y.arc.id
 ·have hk:=hd hid;rw [if_pos hid,if_pos hid.symm];by_cases hlt:y.k<x.k
  · rw [if_pos hlt,if_neg (show ¬ x.k<y.k by omega)]
  · rw [if_neg hlt,if_pos (show x.k<y.k by omega)]
 ·rw [if_neg hid,if_neg (show ¬ y.arc.id=x.arc.id from fun e=>hid e.symm)];split
  ·rw [Bool.eq_iff_iff];simp only [U0,Bool.or_eq_true,avR,beq_iff_eq];constructor
   · rintro (⟨⟨h1,h2⟩,h3⟩ | ⟨⟨h1,h2⟩,h3⟩)<;>rcases h1 with h1 | h1<;>rw [h1] at h2 h3<;>simp [h1,h2,h3]
   · rintro (⟨⟨h1,h2⟩,h3⟩ | ⟨⟨h1,h2⟩,h3⟩)<;>rcases h1 with h1 | h1<;>rw [h1] at h2 h3<;>simp [h1,h2,h3]
  · rfl
theorem Sound.pair {p:Pl} (hp:Sound p) {x y:iY} (hx:x∈p.aj.flatMap (iC p)) (hy:y∈p.aj.flatMap (iC p)) (hd:x.arc.id=y.arc.id->x.arc=y.arc/\x.k<y.k):tq p x.sg y.sg=Df (nodeAt p) x y:=by
 obtain ⟨mx,px,kx⟩:=hp.mem hx;obtain ⟨my,py,ky⟩:=hp.mem hy;unfold tq Df
 show (if x.arc.id=y.arc.id then _ else _)=_
 by_cases hid:x.arc.id=y.arc.id
 ·obtain ⟨ha,hk⟩:=hd hid;rw [if_pos hid,if_pos hid,if_neg (show ¬ y.k<x.k by omega)];unfold zl UZ NR;rw [PW]
  show (if y.k=x.k+1\/(x.k=0/\y.k+1=y.path.length-1/\x.arc.fr=x.arc.dst) then iQ x.fst x.snd y.fst y.snd == 1 else iQ x.fst x.snd y.fst y.snd == 0)=_
  have:(y.k=x.k+1\/(x.k=0/\y.k+1=y.path.length-1/\x.arc.fr=x.arc.dst))↔(decide (x.k+1=y.k) || ((x.arc.fr == x.arc.dst) && decide (x.k=0) && decide ((y.k:Int)=(y.path.length:Int)-2)))=true:=by
   simp only [Bool.or_eq_true,avR,avQ,beq_iff_eq];constructor
   ·rintro (h | ⟨h1,h2,h3⟩)
    · left;omega
    · right;exact ⟨⟨h3,h1⟩,by omega⟩
   ·rintro (h | ⟨⟨h1,h2⟩,h3⟩)
    · left;omega
    · right;exact ⟨h2,by omega,h1⟩
  simp only [this]
 ·rw [if_neg hid,if_neg hid];unfold sZ;rw [PW]
  show (if iQ x.fst x.snd y.fst y.snd=1 then _ else iQ x.fst x.snd y.fst y.snd == 0)=_
  split
  ·rw [Bool.eq_iff_iff,awg];simp only [ru,CZ,U0,Bool.or_eq_true,avR,beq_iff_eq,iY.sg,<- UK];constructor
   ·rintro ⟨n,hn,⟨⟨⟨h1,h2⟩,h3⟩,h4⟩⟩;have hpt:=hp.uI hn;rw [<- hpt] at h3 h4;rcases h1 with h1 | h1
    ·left;rw [h1];exact ⟨⟨by rcases h2 with h2 | h2<;>simp [h2],h3⟩,h4⟩
    ·right;rw [h1];exact ⟨⟨by rcases h2 with h2 | h2<;>simp [h2],h3⟩,h4⟩
   ·obtain ⟨⟨n1,hn1,e1⟩,⟨n2,hn2,e2⟩⟩:=hp.U2 mx;rintro (⟨⟨h1,h2⟩,h3⟩ | ⟨⟨h1,h2⟩,h3⟩)
    ·refine ⟨n1,hn1,⟨⟨⟨.inl e1.symm,by rcases h1 with h1 | h1<;>simp [e1,h1]⟩,?_⟩,?_⟩⟩
     · rw [<- hp.uI hn1,e1];exact h2
     · rw [<- hp.uI hn1,e1];exact h3
    ·refine ⟨n2,hn2,⟨⟨⟨.inr e2.symm,by rcases h1 with h1 | h1<;>simp [e2,h1]⟩,?_⟩,?_⟩⟩
     · rw [<- hp.uI hn2,e2];exact h2
     · rw [<- hp.uI hn2,e2];exact h3
  · rfl
theorem Sound.free {p:Pl} (hp:Sound p) {x:iY} (hx:x∈p.aj.flatMap (iC p)) (n:Nd):ZV x n=vY x.sg n:=by
 obtain ⟨mx,px,kx⟩:=hp.mem hx;unfold ZV vY vX;rw [UK]
 show _=((((x.k:Int) == 0) && (x.arc.fr == n.id)) || (((x.k:Int) == ((x.path.length-1:Nat):Int)-1) && (x.arc.dst == n.id)) || !nV x.fst x.snd n.pt)
 rw [show ((x.path.length-1:Nat):Int)-1=(x.path.length:Int)-2 by omega]
 cases nV x.fst x.snd n.pt<;>cases (((x.k:Int) == 0) && (x.arc.fr == n.id))<;>cases (((x.k:Int) == (x.path.length:Int)-2) && (x.arc.dst == n.id))<;>rfl
theorem Sound.aef {p:Pl} (hp:Sound p):p.aj.all (nI p)=true↔∀ x∈p.aj.flatMap (iC p),Bg x.sg=true:=by
 rw [awh];constructor
 ·intro h x hx;obtain ⟨mx,px,kx⟩:=hp.mem hx;have ha:=h _ mx;unfold nI at ha;rw [hp.path mx] at ha;simp only [avR,Bool.not_eq_true',Bool.and_eq_false_iff,beq_eq_false_iff_ne,avX] at ha;obtain ⟨h1,h2⟩:=ha;rw [<- px] at h1 h2;unfold Bg;simp only [avR,Bool.not_eq_true',avX,Bool.or_eq_true,bne_iff_ne,avQ]
  show ¬ x.fst=x.snd/\(x.arc.fr≠x.arc.dst\/3<=((x.path.length-1:Nat):Int))
  constructor
  ·intro e;unfold FC at h2;rw [awh] at h2;have:=h2 x.k (List.mem_range.2 Pe)
   simp only [Bool.not_eq_true',avX] at this;exact this e
  ·rcases h1 with h1 | h1
   · exact .inl h1
   · right;omega
 ·intro h a ha;unfold nI;rw [hp.path ha];have hmem:∀ k,k+1<(au p a).length->(⟨a,au p a,k⟩:iY)∈p.aj.flatMap (iC p):=fun k hk=>by
   refine List.mem_flatMap.2 ⟨a,ha,?_⟩;rw [hp.NS ha];exact av6.2 ⟨k,List.mem_range.2 Pe,rfl⟩
  have hs:∀ k,k+1<(au p a).length->¬ (au p a).getD k aA=(au p a).getD (k+1) aA/\(a.fr≠a.dst\/3<=(((au p a).length-1:Nat):Int)):=fun k hk=>by
   have:=h _ (hmem k hk)
   unfold Bg at this;simp only [avR,Bool.not_eq_true',avX,Bool.or_eq_true,bne_iff_ne,avQ] at this;exact this
  have hl:=ig p a;simp only [avR,Bool.not_eq_true',Bool.and_eq_false_iff,beq_eq_false_iff_ne,avX];constructor
  ·rcases (hs 0 Pe).2 with h1 | h1
   · exact .inl h1
   · right;omega
  ·unfold FC;rw [awh];intro k hk;have hk:=List.mem_range.1 hk;simpa using (hs k Pe).1
theorem Sound.ale {p:Pl} (hp:Sound p) (hok:p.aj.all (nI p)=true) (sl:List dO) (hs:(sl.map dO.abs).Perm (p.aj.flatMap (iC p))):aee (nodeAt p) p.nodes sl↔rC p=true:=by
 generalize hL:p.aj.flatMap (iC p)=L at *;have I8:∀ {x},x∈L->x∈p.aj.flatMap (iC p):=fun h=>by rw [hL];exact h
 have hpw:L.Pairwise (fun x y=>x.arc.id=y.arc.id->x.arc=y.arc/\x.k<y.k):=by rw [<- hL];exact hp.pw
 have hdist:L.Pairwise (fun x y=>x.arc.id=y.arc.id->x.arc=y.arc/\x.k≠y.k):=hpw.imp fun h e=>⟨(h e).1,by have:=(h e).2;omega⟩;have aeg:(sl.map dO.abs).Pairwise (fun x y=>x.arc.id=y.arc.id->x.arc=y.arc/\x.k≠y.k) :=
  (hs.pairwise_iff (fun h e=>⟨(h e.symm).1.symm,fun e'=>(h e.symm).2 e'.symm⟩)).2 hdist
 have aeh:∀ {x},x∈sl.map dO.abs->x∈p.aj.flatMap (iC p):=fun h=>I8 (hs.mem_iff.1 h)
 let R:iY->iY->Prop:=fun x y=>Df (nodeAt p) x y=true/\Df (nodeAt p) y x=true
 have h1:(sl.map dO.abs).Pairwise R↔L.Pairwise R:=hs.pairwise_iff (fun h=>⟨h.2,h.1⟩);have h2:L.Pairwise R↔(L.map iY.sg).Pairwise (fun s t=>tq p s t=true):=by
  rw [List.pairwise_map,avJ,avJ];rw [avJ] at hpw;constructor
  ·intro h i j hi hj hij;rw [hp.pair (I8 (avF hi)) (I8 (avF hj)) (hpw i j hi hj hij)];exact (h i j hi hj hij).1
  ·intro h i j hi hj hij;have hh:=h i j hi hj hij;have ho:=hpw i j hi hj hij;rw [hp.pair (I8 (avF hi)) (I8 (avF hj)) ho] at hh;refine ⟨hh,?_⟩;rw [<- Sound.sym (p:=p) (fun e=>by have:=(ho e).2;omega)];exact hh
 have h3:(∀ i j (_:i<j) (hj:j<sl.length),kK sl[j]<=rE (sl[i]'(by omega))->rF (nodeAt p) (sl[i]'(by omega)) sl[j]=true)↔(sl.map dO.abs).Pairwise R:=by
  rw [avJ];rw [avJ] at aeg;constructor
  ·intro h i j hi hj hij;have hj':j<sl.length:=by simpa using hj
   have mi:=aeh (avF hi);have mj:=aeh (avF hj);have hd:=aeg i j hi hj hij;have hc:Df (nodeAt p) ((sl.map dO.abs)[i]) ((sl.map dO.abs)[j])=true:=by
    by_cases hw:kK sl[j]<=rE (sl[i]'(by omega))
    ·have:=h i j hij hj' hw
     rw [aed] at this;simpa using this
    ·refine hp.ald (nodeAt p) mi mj (fun e=>(hd e).1) ?_;have hlt:rE (sl[i]'(by omega))<kK sl[j]:=by omega
     rw [av4,av4];exact hlt
   refine ⟨hc,?_⟩;rw [<- Sound.sym (p:=p) (fun e=>(hd e).2)];exact hc
  ·intro h i j hij hj _;have:=(h i j arV (by simpa using hj) hij).1
   rw [aed];simpa using this
 have h4:(∀ s∈sl,∀ n∈p.nodes,ou s n=true)↔∀ x∈L,p.nodes.all (vY x.sg)=true:=by
  constructor
  ·intro h x hx;rw [awh];intro n hn;obtain ⟨s,hs',rfl⟩:=av6.1 (hs.mem_iff.2 hx);rw [<- hp.free (I8 hx)];exact h s hs' n hn
  ·intro h s hs' n hn;have hx:=hs.mem_iff.1 (awd (f:=dO.abs) hs');have:=awh.1 (h _ hx) n hn
   unfold ou;rw [hp.free (I8 hx)];exact this
 unfold aee rC;rw [hp.wH,hL,ZW,h3,h1,h2,h4,and_comm];refine and_congr_left fun _=>?_;constructor
 ·intro h s hs';obtain ⟨x,hx,rfl⟩:=av6.1 hs';unfold vZ;rw [h x hx,hp.aef.1 hok x (I8 hx)];rfl
 ·intro h x hx;have:=h _ (awd (f:=iY.sg) hx)
  unfold vZ at this;rw [avR] at this;exact this.1
theorem Sound.alg {p:Pl} (hp:Sound p) (hok:p.aj.all (nI p)=false):rC p=false:=by
 rw [<- Bool.not_eq_true];intro h;unfold rC at h;rw [ZW,hp.wH] at h
 have:p.aj.all (nI p)=true:=hp.aef.2 fun x hx=>by
  have:=h.1 _ (awd (f:=iY.sg) hx)
  unfold vZ at this;rw [avR] at this;exact this.2
 rw [hok] at this
 cases this
def Kz (l:List Nd):Int->Pt:=l.foldl (fun f n=>fun i=>if i=n.id then n.pt else f i) (fun _=>z0)
theorem alh (l:List Nd) (k:Nat) (hk:k<l.length):Kz (l.take (k+1))=fun i=>if i=l[k].id then l[k].pt else Kz (l.take k) i:=by
 unfold Kz;rw [avH hk,List.foldl_append];rfl
theorem ali (p:Pl) (h:(p.nodes.map (·.id)).Pairwise (· < ·)):Kz p.nodes=nodeAt p:=by
 unfold nodeAt mP;generalize p.nodes=l at *;have gen:∀ (l:List Nd) (f:Int->Pt),(l.map (·.id)).Pairwise (· < ·)->∀ i,(l.foldl (fun f n=>fun i=>if i=n.id then n.pt else f i) f) i=match l.find? (fun n=>n.id == i) with | some n=>n.pt | none=>f i:=by
  intro l
  induction l with
  | nil=>intro f _ i;rfl
  | cons a l ih =>
   intro f h i;rw [List.map_cons,List.pairwise_cons] at h;rw [List.foldl_cons,ih _ h.2];by_cases e:a.id=i
   ·rw [List.find?_cons_of_pos (by simp [e])]
    have:l.find? (fun n=>n.id == i)=none:=by
     rw [List.find?_eq_none];intro x hx;have:=h.1 x.id (awd hx)
     simp;omega
    rw [this];simp [e]
   ·rw [List.find?_cons_of_neg (by simp [e])];split
    · rfl
    · rw [if_neg (fun e'=>e e'.symm)]
 funext i
 have:=gen l (fun _=>z0) h i
 unfold Kz;rw [this]
 cases l.find? (fun n=>n.id == i)<;>rfl
open Go.RowKit Go.Sort
theorem aei {w w':World} (h:yY w w'):∃ q os',w'=grow (w.drewN q) os':=by
 obtain ⟨hb,hd⟩:=h;refine ⟨w'.drawn-w.drawn,w'.heap.extract w.heap.size w'.heap.size,?_⟩;have hh:w'.heap=w.heap++w'.heap.extract w.heap.size w'.heap.size:=by
  apply Array.ext
  · have:=hb.size;simp;omega
  ·intro i h1 h2;by_cases hi:i<w.heap.size
   ·rw [Array.getElem_append_left hi];have:=hb.block i hi
    rw [Array.getElem?_eq_getElem h1,Array.getElem?_eq_getElem hi] at this;injection this
   ·rw [Array.getElem_append_right Pe,Array.getElem_extract];congr 1;omega
 have h1:=hb.os;have h2:=hb.tape;have h3:=hb.output
 cases w;cases w';simp only [grow,World.drewN,World.mk.injEq] at *;exact ⟨hh,h2,by omega,h1,h3⟩
section
variable {α:Type} [Inhabited α] (enc:α->List Value) (k:Nat) (w:World)
theorem ZX (blk off m:Nat) (dk:Array α) (os:Array Obj):(sortWorldK enc k w blk off m dk os).heap=w.heap.modify blk (onCells (putCells id off (flatK enc k dk)))++os:=rfl
theorem aej (blk off m:Nat) (dk:Array α) (os:Array Obj):w.grownBy (sortWorldK enc k w blk off m dk os) (some blk):=by
 refine ⟨rfl,rfl,rfl,?_,fun i hi hne=>?_⟩
 · rw [ZX];simp
 ·have hne':blk≠i:=fun e=>hne avA;rw [ZX,Array.getElem?_append_left avy,Array.getElem?_modify,if_neg hne']
end
theorem U3 {α:Type} (f:α->Int) (x y:α):ltOf (fun x y=>Bv (f x) (f y)) x y=decide (f x<f y):=by
 unfold ltOf Bv;by_cases h:f x<f y
 · simp [h]
 · by_cases h':f y<f x<;>simp [h,h']
theorem alj {α:Type} (f:α->Int):SWO (ltOf (fun x y:α=>Bv (f x) (f y))) where
 irrefl x:=by rw [U3];simp
 trans x y z h1 h2:=by rw [U3] at *;simp at *;omega
 ntrans x y z h1 h2:=by rw [U3] at *;simp at *;omega
def alk (w:World) (base:Nat) (v:Value) (sl:List dO) (e:Ending) (w':World):Prop :=
 e=.returned (.tuple #[])/\∃ sl':List dO,sl'.Perm sl/\(∀ i j (hij:i<j) (hj:j<sl'.length),kK (sl'[i]'(by omega))<=kK sl'[j])/\Own w' base 230 2 jV v sl'/\(∀ s∈sl',iI w' s)/\w.grownBy w' v.ownBlock
theorem alm:∀ w,(isAgg 230).run Tryz.prog w=.ok true w:=fun _=>by kernel_rfl
theorem aek:∀ w,(Go.sizeOf 230).run Tryz.prog w=.ok 2 w:=fun _=>by kernel_rfl
theorem ael {α:Type} [Inhabited α] (enc:α->List Value) (k:Nat) (hk:∀ x,(enc x).length=k) (d:Array α) (j:Nat) (hj:j<d.size*k) :
  (flatK enc k d)[j]! = (d.toList.flatMap enc)[j]! := by
 rw [get_flatK _ _ _ _ hj];have hk0:0<k:=by
  rcases Nat.eq_zero_or_pos k with h | h
  · subst h;simp at hj
  · exact h
 have h1:j / k<d.size:=Nat.div_lt_of_lt_mul (by rw [Nat.mul_comm];exact hj);have h2:j % k<k:=Nat.mod_lt _ hk0;have e:=flat_get enc k hk d.toList (j / k) (j % k) (by simpa using h1) h2;rw [Nat.div_add_mod'] at e;rw [List.getElem!_eq_getElem?_getD,List.getElem!_eq_getElem?_getD,e];congr 2;rw [getElem!_pos d _ h1];simp
theorem aln (base:Nat) (v:Value) (sl:List dO) (w:World) (hown:Own w base 230 2 jV v sl) (hok:∀ s∈sl,iI w s) (hn:sl.length<=4294967296) :
  Calls Tryz.prog 226 #[v,.func (.func 227) #[] #[]] w (alk w base v sl):=by
 rcases sl with _ | ⟨s0,rest⟩
 ·have hv:∃ p cap,v=.slice p 0 cap:=by
   rcases hown.2 with ⟨h,_⟩ | ⟨g,cap,cur,h,_⟩
   · exact ⟨_,_,h⟩
   · exact ⟨_,_,h⟩
  obtain ⟨p,cap,rfl⟩:=hv;refine Calls.mono (AnyF.slices_SortFunc_none Tryz.sortSeg p cap (.func (.func 227) #[] #[]) w) ?_;rintro e w' ⟨rfl,rfl⟩;exact ⟨rfl,[],List.Perm.refl _,fun i j _ hj=>by simp at hj,hown,(fun s hs=>by cases hs),World.grownBy.refl _ _⟩
 generalize hsl:s0::rest=sl at *;have hs0:s0∈sl:=by rw [<- hsl];simp
 have hpos:0<sl.length:=by rw [<- hsl];simp
 obtain ⟨hlen,hown2⟩:=hown;rcases hown2 with ⟨_,h0⟩ | ⟨g,cap,cur,rfl,hg,hh,hnc,hcm,hcs,hx⟩
 · omega
 haveI hI:Inhabited {s:dO // iI w s}:=⟨⟨s0,hok s0 hs0⟩⟩
 have hdl:∃ dl:List {s:dO // iI w s},dl.map (·.1)=sl:=⟨sl.attachWith (iI w) hok,by simp⟩;obtain ⟨dl,hdl⟩:=hdl;have hdn:dl.length=sl.length:=by rw [<- hdl];simp
 have hfm:dl.flatMap (fun x=>jV x.1)=sl.flatMap jV:=by rw [<- hdl,List.flatMap_map]
 have hrow:∀ g',(some g:Option Nat)=some g'->∃ cs,ah w g' 230 cs:=fun g' e=>by injection e with e;subst e;exact ⟨cur,hh⟩
 have hcur:∀ j,j<sl.length*2->cur[j]? = (sl.flatMap jV)[j]? := fun j hj=>by
  rw [<- hx,List.getElem?_take,if_pos hj];simp
 have eg:∀ args w,(callFunc 227 args).run Tryz.prog w=.ok (.enter 227 args) w:=enters_of Tryz.func227 atF rfl;have hkk:∀ x:{s:dO // iI w s},(jV x.1).length=2:=fun _=>rfl;have hcmp:CmpLays Tryz.prog 227 #[] (fun x:{s:dO // iI w s}=>jV x.1) 2 (fun x y=>Bv (kK x.1) (kK y.1)) g 0 dl.toArray.size w:=fun m os dk hdk x y=>by
  have hg':=aej (fun x:{s:dO // iI w s}=>jV x.1) 2 w g 0 m dk os;have hx:=x.2.grow hg' hrow arC arC;have hy:=y.2.grow hg' hrow arC arC;exact (akW x.1 y.1 _ hx hy).mono fun e w' h=>⟨h.1,aei h.2⟩
 have hsz:dl.toArray.size*2=sl.length*2:=by simp [hdn]
 have hH:HoldsK (fun x:{s:dO // iI w s}=>jV x.1) 2 w g 0 dl.toArray:=fun j hj=>by
  rw [size_flatK,hsz] at hj;refine ⟨?_,ah.frozen (t:=230) (cs:=cur) hh _⟩;rw [cell_of_row w g _ cur 230 (0,0) hh,Nat.zero_add,hcur j hj,ael _ 2 hkk _ j (by rw [hsz];exact hj)];simp only [id];rw [hfm,List.getElem!_eq_getElem?_getD]
  have:j<(sl.flatMap jV).length:=by rw [hlen];exact hj
  rw [avG this];rfl
 have hcon:=AnyQ.slices_SortFunc Tryz.sortSeg 2 alm aek (fun x:{s:dO // iI w s}=>jV x.1) hkk (fun x=>ad2 x.1) (fun x y=>Bv (kK x.1) (kK y.1)) (alj fun x:{s:dO // iI w s}=>kK x.1) 227 #[] g 0 cap dl.toArray w eg hcmp hH (ah.lt hh) arV;have hns:dl.toArray.size=sl.length:=by simp [hdn]
 rw [hns] at hcon;refine Calls.mono hcon ?_;rintro e w' ⟨rfl,d',n,os,hp,hs,rfl⟩;obtain ⟨p1,-,p3⟩:=hp;have hd':d'.size=sl.length:=by rw [p1,hns]
 have hperm:d'.toList.Perm dl:=by
  have e1:d'.extract 0 sl.length=d':=by rw [<- hd'];simp
  have e2:dl.toArray.extract 0 sl.length=dl.toArray:=by rw [<- hns];simp
  rw [e1,e2] at p3;simpa using p3
 have hg':=aej (fun x:{s:dO // iI w s}=>jV x.1) 2 w g 0 n d' os;refine ⟨rfl,d'.toList.map (·.1),by rw [<- hdl];exact hperm.map _,?_,?_,?_,hg'⟩
 ·intro i j hij hj;have hj':j<d'.size:=by simpa using hj
  have:=hs i j (avK _) hij (by rw [<- hd'];exact hj')
  rw [U3 (fun x:{s:dO // iI w s}=>kK x.1),avX,getElem!_pos d' j hj',getElem!_pos d' i Pe] at this;simp only [av4,Array.getElem_toList];omega
 ·have hl':(d'.toList.map (·.1)).length=sl.length:=by simp [hd']
  unfold Own;rw [hl'];have hfd:(d'.toList.map (·.1)).flatMap jV=d'.toList.flatMap (fun x=>jV x.1):=by rw [List.flatMap_map]
  have hln:((d'.toList.map (·.1)).flatMap jV).length=sl.length*2:=by rw [flat_length jV 2 UW,hl']
  refine ⟨hln,.inr ⟨g,cap,putCells id 0 (flatK (fun x:{s:dO // iI w s}=>jV x.1) 2 d') cur,rfl,hg,?_,hnc,hcm,by simp [putCells,hcs],?_⟩⟩
  ·have hgl:g<w.heap.size:=ah.lt hh;rw [ZX,Array.getElem?_append_left (by simpa using hgl),Array.getElem?_modify,if_pos rfl,hh];rfl
  ·apply List.ext_getElem?;intro j;rw [List.getElem?_take];by_cases hj:j<sl.length*2
   ·rw [if_pos hj,hfd];have hjc:j<cur.size:=by rw [hcs];have:=Nat.mul_le_mul_right 2 hnc;omega
    have hjd:j<d'.size*2:=by rw [hd'];exact hj
    have e1:(putCells id 0 (flatK (fun x:{s:dO // iI w s}=>jV x.1) 2 d') cur).toList[j]? = some (flatK (fun x:{s:dO // iI w s}=>jV x.1) 2 d')[j]! := by
     simp [putCells,hjc,hjd]
    rw [e1,ael _ 2 hkk _ j hjd,List.getElem!_eq_getElem?_getD]
    have:j<(d'.toList.flatMap fun x=>jV x.1).length:=by rw [<- hfd,hln];exact hj
    rw [avG this];rfl
   · rw [if_neg hj,awj (by rw [hln];omega)]
 ·intro s hs;obtain ⟨x,-,rfl⟩:=av6.1 hs;exact x.2.grow hg' hrow arC arC
end Go.Proofs.YtialfdomhoojiaaGreat
