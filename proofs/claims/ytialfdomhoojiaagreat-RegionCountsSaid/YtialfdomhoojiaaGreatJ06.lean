import Derived.Test.YtialfdomhoojiaaGreatJ03
import Derived.Test.YtialfdomhoojiaaGreatJ05
import Derived.Shelf.SlSortCmp.NoneTotal
import Derived.Test.YtialfdomhoojiaaGreatLaySort
set_option linter.unusedSimpArgs false
set_option linter.unusedVariables false
namespace Go.Proofs.YtialfdomhoojiaaGreat
open Go.RowKit
theorem akk (a b c d:Pt) (h1:a.x<c.x) (h2:a.x<d.x) (h3:b.x<c.x) (h4:b.x<d.x):lM a b c d=0:=by
 rw [yY];have hac:bF a c=true:=(nR a c).2 (.inl h1);have had:bF a d=true:=(nR a d).2 (.inl h2);have hbc:bF b c=true:=(nR b c).2 (.inl h3);have hbd:bF b d=true:=(nR b d).2 (.inl h4);have hca:=ru hac;have hda:=ru had;have hcb:=ru hbc;have hdb:=ru hbd;have n1:c≠a:=fun e=>by subst e;omega
 have n2:d≠a:=fun e=>by subst e;omega
 have n3:c≠b:=fun e=>by subst e;omega
 have n4:d≠b:=fun e=>by subst e;omega
 obtain ⟨e1,e2,-⟩ | ⟨e1,e2,-⟩:=Ce c d<;>obtain ⟨f1,f2,-⟩ | ⟨f1,f2,-⟩:=Ce a b <;>
  rw [e1,e2,f1,f2]<;>simp [hi,lo,hac,had,hbc,hbd,hca,hda,hcb,hdb,n1,n2,n3,n4]
theorem akl {n s p q M:Int} (h0:0<=s) (h1:s<=n) (hp:p<=M) (hq:q<=M):n*p+s*(q-p)<=n*M:=by
 have e:n*M-(n*p+s*(q-p))=(n-s)*(M-p)+s*(M-q):=by grind
 have:=Int.mul_nonneg (show 0<=n-s by omega) (show 0<=M-p by omega)
 have:=Int.mul_nonneg h0 (show 0<=M-q by omega)
 omega
theorem akm {n s p q M:Int} (h0:0<=s) (h1:s<=n) (hp:M<=p) (hq:M<=q):n*M<=n*p+s*(q-p):=by
 have e:(n*p+s*(q-p))-n*M=(n-s)*(p-M)+s*(q-M):=by grind
 have:=Int.mul_nonneg (show 0<=n-s by omega) (show 0<=p-M by omega)
 have:=Int.mul_nonneg h0 (show 0<=q-M by omega)
 omega
theorem acK {n s u p q r t:Int} (hn:0<n) (h0:0<=s) (h1:s<=n) (h2:0<=u) (h3:u<=n) (hpr:max p q<min r t)
  (e:n*p+s*(q-p)=n*r+u*(t-r)):False:=by
 have l1:=akl (p:=p) (q:=q) (M:=max p q) h0 h1 (by omega) (by omega);have l2:=akm (p:=r) (q:=t) (M:=min r t) h2 h3 (by omega) (by omega)
 have:n*max p q<n*min r t:=Int.mul_lt_mul_of_pos_left hpr hn
 omega
theorem akn (a b c d:Pt) (h:max a.x b.x<min c.x d.x):ku a b c d=0:=by
 rw [MX];unfold ig;split
 case isFalse => rfl
 unfold qg;have id1:aF a b c d*a.x+aF a c c d*(b.x-a.x)=aF a b c d*c.x+aF a c a b*(d.x-c.x):=by unfold aF;grind
 split
 · rfl
 split
 ·split
  · exact akk a b c d (by omega) (by omega) (by omega) (by omega)
  · rfl
 split
 ·rename_i hn;split
  ·rename_i hh;obtain ⟨q1,q2,q3,q4⟩:=hh;exact (acK (n:=-aF a b c d) (s:=-aF a c c d) (u:=-aF a c a b) (by omega) q1 q2 q3 q4 h (by
    rw [Int.neg_mul,Int.neg_mul,Int.neg_mul,Int.neg_mul];omega)).elim
  · rfl
 ·rename_i h0 hn;split
  ·rename_i hh;obtain ⟨q1,q2,q3,q4⟩:=hh;exact (acK (n:=aF a b c d) (s:=aF a c c d) (u:=aF a c a b) (by omega) q1 q2 q3 q4 h id1).elim
  · rfl
theorem acL (a b c d:Pt):ig a b c d=ig c d a b:=by
 have hn:fH [a,b,c,d]=fH [c,d,a,b]:=by
  rw [Bool.eq_iff_iff];simp [fH];constructor<;>(rintro ⟨h1,h2,h3,h4⟩;exact ⟨h3,h4,h1,h2⟩)
 unfold ig;rw [hn];split
 case isFalse => rfl
 unfold qg;have e0:aF c d a b=- aF a b c d:=by unfold aF;grind
 have e1:aF c a a b=aF a c a b*(-1):=by unfold aF;grind
 have e2:aF c a c d=aF a c c d*(-1):=by unfold aF;grind
 have e3:aF a b c d=- aF c d a b:=by rw [e0];omega
 by_cases h1:a=b/\c=d/\¬ a=c
 · rw [if_pos h1,if_pos ⟨h1.2.1,h1.1,fun e=>h1.2.2 e.symm⟩]
 rw [if_neg h1,if_neg (show ¬ (c=d/\a=b/\¬ c=a) from fun e=>h1 ⟨e.2.1,e.1,fun e'=>e.2.2 e'.symm⟩)];rw [e0,e1,e2];by_cases hz:aF a b c d=0
 ·rw [if_pos hz,if_pos (show-aF a b c d=0 by omega),AP a b c d];by_cases hh:aF a b a c=0/\aF a b a d=0/\aF c d c a=0/\aF c d c b=0
  · rw [if_pos hh,if_pos (show aF c d c a=0/\aF c d c b=0/\aF a b a c=0/\aF a b a d=0 from ⟨hh.2.2.1,hh.2.2.2,hh.1,hh.2.1⟩)]
  · rw [if_neg hh,if_neg (show ¬ (aF c d c a=0/\aF c d c b=0/\aF a b a c=0/\aF a b a d=0) from fun e=>hh ⟨e.2.2.1,e.2.2.2,e.1,e.2.1⟩)]
 ·rw [if_neg hz,if_neg (show ¬ - aF a b c d=0 by omega)];by_cases hneg:aF a b c d<0
  ·rw [if_pos hneg,if_neg (show ¬ - aF a b c d<0 by omega)];congr 1;simp only [eq_iff_iff];omega
  ·rw [if_neg hneg,if_pos (show-aF a b c d<0 by omega)];congr 1;simp only [eq_iff_iff];omega
theorem ako (a b c d:Pt):ku a b c d=ku c d a b:=by rw [MX,MX,acL]
def gq.fst (s:gq):Pt:=s.path.getD s.k aB
def gq.snd (s:gq):Pt:=s.path.getD (s.k+1) aB
def gq.west (s:gq):Int:=min s.fst.x s.snd.x
def gq.east (s:gq):Int:=max s.fst.x s.snd.x
def gq.sg (s:gq):Sg:=⟨s.arc,s.k,s.path.length-1,s.fst,s.snd⟩
def JO (a b:gq):Bool:=decide (a.k+1=b.k) || ((a.arc.fr == a.arc.dst) && decide (a.k=0) && decide ((b.k:Int)=(b.path.length:Int)-2))
def Rj (m:Int) (a b:gq):Bool:=if JO a b then m == 1 else m == 0
def Rk (f:Int->Pt) (s t:gq) (id:Int):Bool:=(id == t.arc.fr || id == t.arc.dst) && fO s.fst s.snd (f id) && fO t.fst t.snd (f id)
def zi (f:Int->Pt) (s t:gq):Bool :=
 if s.arc.id=t.arc.id then (if t.k<s.k then Rj (ku s.fst s.snd t.fst t.snd) t s else Rj (ku s.fst s.snd t.fst t.snd) s t)
 else if ku s.fst s.snd t.fst t.snd=1 then Rk f s t s.arc.fr || Rk f s t s.arc.dst
 else ku s.fst s.snd t.fst t.snd == 0
theorem acM (f:Int->Pt) (s t:bP):qN f s t=zi f s.abs t.abs:=rfl
def Xb (s:gq) (n:Nd):Bool:=!(fO s.fst s.snd n.pt && !(((s.k:Int) == 0) && (s.arc.fr == n.id)) && !(((s.k:Int) == (s.path.length:Int)-2) && (s.arc.dst == n.id)))
def mP (s:bP) (n:Nd):Bool:=Xb s.abs n
def acN (f:Int->Pt) (nl:List Nd) (sl:List bP):Prop :=
 (∀ i j (_:i<j) (hj:j<sl.length),jA sl[j]<=qM (sl[i]'(by omega))->qN f (sl[i]'(by omega)) sl[j]=true)/\∀ s∈sl,∀ n∈nl,mP s n=true
theorem Nz (l:List Int) (h:uU l=true):l.Pairwise (· < ·):=by
 have h1:∀ j (hj:j+1<l.length),l[j]<l[j+1]:=fun j hj=>by
  unfold uU at h;rw [List.all_eq_true] at h;have:=h j (List.mem_range.2 (by omega))
  simpa [List.getD,List.getElem?_eq_getElem hj,List.getElem?_eq_getElem (show j<l.length by omega)] using this
 have h2:∀ d i (hi:i+d+1<l.length),l[i]'(by omega)<l[i+d+1]:=by
  intro d
  induction d with
  | zero=>intro i hi;exact h1 i hi
  | succ d ih=>intro i hi;have:=ih i (by omega);have:=h1 (i+d+1) (by omega);simp only [Nat.add_assoc] at *;omega
 rw [List.pairwise_iff_getElem];intro i j hi hj hij;have:=h2 (j-i-1) i (by omega)
 simp only [show i+(j-i-1)+1=j by omega] at this;exact this
theorem Rl {α:Type} (l:List α) (f:α->Bool) (g:α->α->Bool):Ej l f g=true↔(∀ x∈l,f x=true)/\l.Pairwise (fun s t=>g s t=true):=by
 constructor
 ·intro h;constructor
  ·intro x hx;obtain ⟨i,hi,rfl⟩:=List.mem_iff_getElem.1 hx
   cases hf:f l[i]
   · rw [ajF l f g i hi hf] at h;cases h
   · rfl
  ·rw [List.pairwise_iff_getElem];intro k i hk hi hki
   cases hg:g l[k] l[i]
   · rw [ajG l f g i k hki hi hg] at h;cases h
   · rfl
 ·rintro ⟨h1,h2⟩;rw [List.pairwise_iff_getElem] at h2;exact ajH l f g (fun i hi=>h1 _ (List.getElem_mem hi)) (fun i k hk hi=>h2 k i (by omega) hi hk)
structure Sound (p:Pl):Prop where
 nodes:(p.nodes.map (·.id)).Pairwise (· < ·)
 ah:(p.ah.map (·.id)).Pairwise (· < ·)
 ends:∀ a∈p.ah,qZ p a=true
theorem Ro {α:Type} (f:α->Int) (l:List α) (h:(l.map f).Pairwise (· < ·)) (a:α) (ha:a∈l):l.find? (fun x=>f x == f a)=some a:=by
 induction l with
 | nil=>cases ha
 | cons b l ih =>
  rw [List.map_cons,List.pairwise_cons] at h;rcases List.mem_cons.1 ha with rfl | ha'
  · simp
  ·have:=h.1 (f a) (List.mem_map_of_mem ha')
   rw [List.find?_cons_of_neg (by simp;omega)];exact ih h.2 ha'
theorem Sound.path {p:Pl} (hp:Sound p) {a:Ar} (ha:a∈p.ah):pathOf p a.id=some (au p a):=by
 unfold pathOf findAr;rw [Ro (·.id) p.ah hp.ah a ha];simp [hp.ends a ha]
theorem Sound.JQ {p:Pl} (hp:Sound p) {a:Ar} (ha:a∈p.ah):fD p a=(List.range ((au p a).length-1)).map fun k=>⟨a,au p a,k⟩:=by
 unfold fD;rw [hp.path ha];rfl
theorem Sound.mem {p:Pl} (hp:Sound p) {x:gq} (hx:x∈p.ah.flatMap (fD p)):x.arc∈p.ah/\x.path=au p x.arc/\x.k+1<x.path.length:=by
 obtain ⟨a,ha,hx⟩:=List.mem_flatMap.1 hx;rw [hp.JQ ha] at hx;obtain ⟨k,hk,rfl⟩:=List.mem_map.1 hx;have:=List.mem_range.1 hk
 exact ⟨ha,rfl,by show k+1<(au p a).length;omega⟩
theorem Sound.sN {p:Pl} (hp:Sound p) {x:Nd} (hx:x∈p.nodes):nodeAt p x.id=x.pt:=by
 unfold nodeAt mJ;rw [Ro (·.id) p.nodes hp.nodes x hx];rfl
theorem Sound.Rq {p:Pl} (hp:Sound p) {a:Ar} (ha:a∈p.ah):(∃ x∈p.nodes,x.id=a.fr)/\∃ x∈p.nodes,x.id=a.dst:=by
 have h:=hp.ends a ha;unfold qZ at h;rw [Bool.and_eq_true] at h;obtain ⟨h1,h2⟩:=h;obtain ⟨x,hx⟩:=Option.isSome_iff_exists.1 h1;obtain ⟨y,hy⟩:=Option.isSome_iff_exists.1 h2;exact ⟨⟨x,List.mem_of_find?_eq_some hx,by simpa using List.find?_some hx⟩,⟨y,List.mem_of_find?_eq_some hy,by simpa using List.find?_some hy⟩⟩
theorem Sound.tY {p:Pl} (hp:Sound p):Nc p=(p.ah.flatMap (fD p)).map gq.sg:=by
 unfold Nc;rw [List.map_flatMap];have:∀ l:List Ar,(∀ a∈l,a∈p.ah)->l.flatMap (fun a=>Ei a (au p a))=l.flatMap (fun a=>(fD p a).map gq.sg):=by
  intro l
  induction l with
  | nil=>intro _;rfl
  | cons a l ih =>
   intro h;rw [List.flatMap_cons,List.flatMap_cons,ih (fun b hb=>h b (by simp [hb])),hp.JQ (h a (by simp)),List.map_map];rfl
 exact this _ fun a ha=>ha
theorem Sound.pw {p:Pl} (hp:Sound p):(p.ah.flatMap (fD p)).Pairwise (fun x y=>x.arc.id=y.arc.id->x.arc=y.arc/\x.k<y.k):=by
 rw [List.pairwise_flatMap];constructor
 ·intro a ha;rw [hp.JQ ha,List.pairwise_map];exact List.pairwise_lt_range.imp fun h _=>⟨rfl,h⟩
 ·have h:=hp.ah;rw [List.pairwise_map] at h;refine (List.Pairwise.and_mem.1 h).imp ?_;rintro a b ⟨ha,hb,hlt⟩ x hx y hy he;rw [hp.JQ ha] at hx;rw [hp.JQ hb] at hy;obtain ⟨k,-,rfl⟩:=List.mem_map.1 hx;obtain ⟨m,-,rfl⟩:=List.mem_map.1 hy;have he':a.id=b.id:=he;omega
theorem Sound.akp {p:Pl} (hp:Sound p) {x:gq} (hx:x∈p.ah.flatMap (fD p)) (h:x.k=0):x.fst=nodeAt p x.arc.fr:=by
 obtain ⟨-,h2,-⟩:=hp.mem hx;unfold gq.fst;rw [h2,h];rfl
theorem Sound.akq {p:Pl} (hp:Sound p) {x:gq} (hx:x∈p.ah.flatMap (fD p)) (h:(x.k:Int)=(x.path.length:Int)-2):x.snd=nodeAt p x.arc.dst:=by
 obtain ⟨-,h2,h3⟩:=hp.mem hx;unfold gq.snd
 have:x.k+1=x.arc.via.length+1:=by rw [h2,fJ] at h;omega
 rw [h2,this];unfold au;rw [List.getD_cons_succ,List.getD_eq_getElem?_getD,List.getElem?_append_right (Nat.le_refl _)];simp
theorem Sound.chain {p:Pl} (hp:Sound p) {x y:gq} (hx:x∈p.ah.flatMap (fD p)) (hy:y∈p.ah.flatMap (fD p)) (ha:x.arc=y.arc) (hc:JO x y=true):x.west<=y.east/\y.west<=x.east:=by
 have akr:x.path=y.path:=by rw [(hp.mem hx).2.1,(hp.mem hy).2.1,ha]
 unfold JO at hc;rw [Bool.or_eq_true] at hc;unfold gq.west gq.east;rcases hc with hc | hc
 ·have hk:x.k+1=y.k:=by simpa using hc
  have e:x.snd=y.fst:=by unfold gq.snd gq.fst;rw [akr,hk]
  rw [e];omega
 ·simp only [Bool.and_eq_true,decide_eq_true_eq,beq_iff_eq] at hc;obtain ⟨⟨h1,h2⟩,h3⟩:=hc;have e:x.fst=y.snd:=by rw [hp.akp hx h2,hp.akq hy h3,h1,ha]
  rw [e];omega
theorem Sound.aks {p:Pl} (hp:Sound p) (f:Int->Pt) {x y:gq} (hx:x∈p.ah.flatMap (fD p)) (hy:y∈p.ah.flatMap (fD p)) (hd:x.arc.id=y.arc.id->x.arc=y.arc) (h:x.east<y.west):zi f x y=true:=by
 have hm:ku x.fst x.snd y.fst y.snd=0:=akn _ _ _ _ h;have hle:y.west<=y.east:=by unfold gq.west gq.east;omega
 have hle':x.west<=x.east:=by unfold gq.west gq.east;omega
 unfold zi;rw [hm];by_cases hid:x.arc.id=y.arc.id
 ·have ha:=hd hid;rw [if_pos hid];have n1:JO x y=false:=by
   rw [<- Bool.not_eq_true];intro hc;have:=hp.chain hx hy ha hc;omega
  have n2:JO y x=false:=by
   rw [<- Bool.not_eq_true];intro hc;have:=hp.chain hy hx ha.symm hc;omega
  simp [Rj,n1,n2]
 · simp [hid]
theorem Sound.sym {p:Pl} {x y:gq} (hd:x.arc.id=y.arc.id->x.k≠y.k):zi (nodeAt p) x y=zi (nodeAt p) y x:=by
 unfold zi;rw [ako y.fst y.snd x.fst x.snd];by_cases hid:x.arc.id=y.arc.id
 ·have hk:=hd hid;rw [if_pos hid,if_pos hid.symm];by_cases hlt:y.k<x.k
  · rw [if_pos hlt,if_neg (show ¬ x.k<y.k by omega)]
  · rw [if_neg hlt,if_pos (show x.k<y.k by omega)]
 ·rw [if_neg hid,if_neg (show ¬ y.arc.id=x.arc.id from fun e=>hid e.symm)];split
  ·rw [Bool.eq_iff_iff];simp only [Rk,Bool.or_eq_true,Bool.and_eq_true,beq_iff_eq];constructor
   · rintro (⟨⟨h1,h2⟩,h3⟩ | ⟨⟨h1,h2⟩,h3⟩)<;>rcases h1 with h1 | h1<;>rw [h1] at h2 h3<;>simp [h1,h2,h3]
   · rintro (⟨⟨h1,h2⟩,h3⟩ | ⟨⟨h1,h2⟩,h3⟩)<;>rcases h1 with h1 | h1<;>rw [h1] at h2 h3<;>simp [h1,h2,h3]
  · rfl
theorem Sound.pair {p:Pl} (hp:Sound p) {x y:gq} (hx:x∈p.ah.flatMap (fD p)) (hy:y∈p.ah.flatMap (fD p)) (hd:x.arc.id=y.arc.id->x.arc=y.arc/\x.k<y.k):AQ p x.sg y.sg=zi (nodeAt p) x y:=by
 obtain ⟨mx,px,kx⟩:=hp.mem hx;obtain ⟨my,py,ky⟩:=hp.mem hy;unfold AQ zi
 show (if x.arc.id=y.arc.id then _ else _)=_
 by_cases hid:x.arc.id=y.arc.id
 ·obtain ⟨ha,hk⟩:=hd hid;rw [if_pos hid,if_pos hid,if_neg (show ¬ y.k<x.k by omega)];unfold Ci Rj JO;rw [MX]
  show (if y.k=x.k+1\/(x.k=0/\y.k+1=y.path.length-1/\x.arc.fr=x.arc.dst) then ig x.fst x.snd y.fst y.snd == 1 else ig x.fst x.snd y.fst y.snd == 0)=_
  have:(y.k=x.k+1\/(x.k=0/\y.k+1=y.path.length-1/\x.arc.fr=x.arc.dst))↔(decide (x.k+1=y.k) || ((x.arc.fr == x.arc.dst) && decide (x.k=0) && decide ((y.k:Int)=(y.path.length:Int)-2)))=true:=by
   simp only [Bool.or_eq_true,Bool.and_eq_true,decide_eq_true_eq,beq_iff_eq];constructor
   ·rintro (h | ⟨h1,h2,h3⟩)
    · left;omega
    · right;exact ⟨⟨h3,h1⟩,by omega⟩
   ·rintro (h | ⟨⟨h1,h2⟩,h3⟩)
    · left;omega
    · right;exact ⟨h2,by omega,h1⟩
  simp only [this]
 ·rw [if_neg hid,if_neg hid];unfold sH;rw [MX]
  show (if ig x.fst x.snd y.fst y.snd=1 then _ else ig x.fst x.snd y.fst y.snd == 0)=_
  split
  ·rw [Bool.eq_iff_iff,List.any_eq_true];simp only [Ef,GH,Rk,Bool.or_eq_true,Bool.and_eq_true,beq_iff_eq,gq.sg,<- WG];constructor
   ·rintro ⟨n,hn,⟨⟨⟨h1,h2⟩,h3⟩,h4⟩⟩;have hpt:=hp.sN hn;rw [<- hpt] at h3 h4;rcases h1 with h1 | h1
    ·left;rw [h1];exact ⟨⟨by rcases h2 with h2 | h2<;>simp [h2],h3⟩,h4⟩
    ·right;rw [h1];exact ⟨⟨by rcases h2 with h2 | h2<;>simp [h2],h3⟩,h4⟩
   ·obtain ⟨⟨n1,hn1,e1⟩,⟨n2,hn2,e2⟩⟩:=hp.Rq mx;rintro (⟨⟨h1,h2⟩,h3⟩ | ⟨⟨h1,h2⟩,h3⟩)
    ·refine ⟨n1,hn1,⟨⟨⟨.inl e1.symm,by rcases h1 with h1 | h1<;>simp [e1,h1]⟩,?_⟩,?_⟩⟩
     · rw [<- hp.sN hn1,e1];exact h2
     · rw [<- hp.sN hn1,e1];exact h3
    ·refine ⟨n2,hn2,⟨⟨⟨.inr e2.symm,by rcases h1 with h1 | h1<;>simp [e2,h1]⟩,?_⟩,?_⟩⟩
     · rw [<- hp.sN hn2,e2];exact h2
     · rw [<- hp.sN hn2,e2];exact h3
  · rfl
theorem Sound.free {p:Pl} (hp:Sound p) {x:gq} (hx:x∈p.ah.flatMap (fD p)) (n:Nd):Xb x n=MZ x.sg n:=by
 obtain ⟨mx,px,kx⟩:=hp.mem hx;unfold Xb MZ WO;rw [WG]
 show _=((((x.k:Int) == 0) && (x.arc.fr == n.id)) || (((x.k:Int) == ((x.path.length-1:Nat):Int)-1) && (x.arc.dst == n.id)) || !qX x.fst x.snd n.pt)
 rw [show ((x.path.length-1:Nat):Int)-1=(x.path.length:Int)-2 by omega]
 cases qX x.fst x.snd n.pt<;>cases (((x.k:Int) == 0) && (x.arc.fr == n.id))<;>cases (((x.k:Int) == (x.path.length:Int)-2) && (x.arc.dst == n.id))<;>rfl
theorem Sound.acO {p:Pl} (hp:Sound p):p.ah.all (lC p)=true↔∀ x∈p.ah.flatMap (fD p),Na x.sg=true:=by
 rw [List.all_eq_true];constructor
 ·intro h x hx;obtain ⟨mx,px,kx⟩:=hp.mem hx;have ha:=h _ mx;unfold lC at ha;rw [hp.path mx] at ha;simp only [Bool.and_eq_true,Bool.not_eq_true',Bool.and_eq_false_iff,beq_eq_false_iff_ne,decide_eq_false_iff_not] at ha;obtain ⟨h1,h2⟩:=ha;rw [<- px] at h1 h2;unfold Na;simp only [Bool.and_eq_true,Bool.not_eq_true',decide_eq_false_iff_not,Bool.or_eq_true,bne_iff_ne,decide_eq_true_eq]
  show ¬ x.fst=x.snd/\(x.arc.fr≠x.arc.dst\/3<=((x.path.length-1:Nat):Int))
  constructor
  ·intro e;unfold CB at h2;rw [List.all_eq_true] at h2;have:=h2 x.k (List.mem_range.2 (by omega))
   simp only [Bool.not_eq_true',decide_eq_false_iff_not] at this;exact this e
  ·rcases h1 with h1 | h1
   · exact .inl h1
   · right;omega
 ·intro h a ha;unfold lC;rw [hp.path ha];have hmem:∀ k,k+1<(au p a).length->(⟨a,au p a,k⟩:gq)∈p.ah.flatMap (fD p):=fun k hk=>by
   refine List.mem_flatMap.2 ⟨a,ha,?_⟩;rw [hp.JQ ha];exact List.mem_map.2 ⟨k,List.mem_range.2 (by omega),rfl⟩
  have hs:∀ k,k+1<(au p a).length->¬ (au p a).getD k aB=(au p a).getD (k+1) aB/\(a.fr≠a.dst\/3<=(((au p a).length-1:Nat):Int)):=fun k hk=>by
   have:=h _ (hmem k hk)
   unfold Na at this;simp only [Bool.and_eq_true,Bool.not_eq_true',decide_eq_false_iff_not,Bool.or_eq_true,bne_iff_ne,decide_eq_true_eq] at this;exact this
  have hl:=fJ p a;simp only [Bool.and_eq_true,Bool.not_eq_true',Bool.and_eq_false_iff,beq_eq_false_iff_ne,decide_eq_false_iff_not];constructor
  ·rcases (hs 0 (by omega)).2 with h1 | h1
   · exact .inl h1
   · right;omega
  ·unfold CB;rw [List.all_eq_true];intro k hk;have hk:=List.mem_range.1 hk;simpa using (hs k (by omega)).1
theorem Sound.akt {p:Pl} (hp:Sound p) (hok:p.ah.all (lC p)=true) (sl:List bP) (hs:(sl.map bP.abs).Perm (p.ah.flatMap (fD p))):acN (nodeAt p) p.nodes sl↔sJ p=true:=by
 generalize hL:p.ah.flatMap (fD p)=L at *;have EF:∀ {x},x∈L->x∈p.ah.flatMap (fD p):=fun h=>by rw [hL];exact h
 have hpw:L.Pairwise (fun x y=>x.arc.id=y.arc.id->x.arc=y.arc/\x.k<y.k):=by rw [<- hL];exact hp.pw
 have hdist:L.Pairwise (fun x y=>x.arc.id=y.arc.id->x.arc=y.arc/\x.k≠y.k):=hpw.imp fun h e=>⟨(h e).1,by have:=(h e).2;omega⟩;have acP:(sl.map bP.abs).Pairwise (fun x y=>x.arc.id=y.arc.id->x.arc=y.arc/\x.k≠y.k) :=
  (hs.pairwise_iff (fun h e=>⟨(h e.symm).1.symm,fun e'=>(h e.symm).2 e'.symm⟩)).2 hdist
 have acQ:∀ {x},x∈sl.map bP.abs->x∈p.ah.flatMap (fD p):=fun h=>EF (hs.mem_iff.1 h)
 let R:gq->gq->Prop:=fun x y=>zi (nodeAt p) x y=true/\zi (nodeAt p) y x=true
 have h1:(sl.map bP.abs).Pairwise R↔L.Pairwise R:=hs.pairwise_iff (fun h=>⟨h.2,h.1⟩);have h2:L.Pairwise R↔(L.map gq.sg).Pairwise (fun s t=>AQ p s t=true):=by
  rw [List.pairwise_map,List.pairwise_iff_getElem,List.pairwise_iff_getElem];rw [List.pairwise_iff_getElem] at hpw;constructor
  ·intro h i j hi hj hij;rw [hp.pair (EF (List.getElem_mem hi)) (EF (List.getElem_mem hj)) (hpw i j hi hj hij)];exact (h i j hi hj hij).1
  ·intro h i j hi hj hij;have hh:=h i j hi hj hij;have ho:=hpw i j hi hj hij;rw [hp.pair (EF (List.getElem_mem hi)) (EF (List.getElem_mem hj)) ho] at hh;refine ⟨hh,?_⟩;rw [<- Sound.sym (p:=p) (fun e=>by have:=(ho e).2;omega)];exact hh
 have h3:(∀ i j (_:i<j) (hj:j<sl.length),jA sl[j]<=qM (sl[i]'(by omega))->qN (nodeAt p) (sl[i]'(by omega)) sl[j]=true)↔(sl.map bP.abs).Pairwise R:=by
  rw [List.pairwise_iff_getElem];rw [List.pairwise_iff_getElem] at acP;constructor
  ·intro h i j hi hj hij;have hj':j<sl.length:=by simpa using hj
   have mi:=acQ (List.getElem_mem hi);have mj:=acQ (List.getElem_mem hj);have hd:=acP i j hi hj hij;have hc:zi (nodeAt p) ((sl.map bP.abs)[i]) ((sl.map bP.abs)[j])=true:=by
    by_cases hw:jA sl[j]<=qM (sl[i]'(by omega))
    ·have:=h i j hij hj' hw
     rw [acM] at this;simpa using this
    ·refine hp.aks (nodeAt p) mi mj (fun e=>(hd e).1) ?_;have hlt:qM (sl[i]'(by omega))<jA sl[j]:=by omega
     rw [List.getElem_map,List.getElem_map];exact hlt
   refine ⟨hc,?_⟩;rw [<- Sound.sym (p:=p) (fun e=>(hd e).2)];exact hc
  ·intro h i j hij hj _;have:=(h i j (by simp;omega) (by simpa using hj) hij).1
   rw [acM];simpa using this
 have h4:(∀ s∈sl,∀ n∈p.nodes,mP s n=true)↔∀ x∈L,p.nodes.all (MZ x.sg)=true:=by
  constructor
  ·intro h x hx;rw [List.all_eq_true];intro n hn;obtain ⟨s,hs',rfl⟩:=List.mem_map.1 (hs.mem_iff.2 hx);rw [<- hp.free (EF hx)];exact h s hs' n hn
  ·intro h s hs' n hn;have hx:=hs.mem_iff.1 (List.mem_map_of_mem (f:=bP.abs) hs');have:=List.all_eq_true.1 (h _ hx) n hn
   unfold mP;rw [hp.free (EF hx)];exact this
 unfold acN sJ;rw [hp.tY,hL,Rl,h3,h1,h2,h4,and_comm];refine and_congr_left fun _=>?_;constructor
 ·intro h s hs';obtain ⟨x,hx,rfl⟩:=List.mem_map.1 hs';unfold Eh;rw [h x hx,hp.acO.1 hok x (EF hx)];rfl
 ·intro h x hx;have:=h _ (List.mem_map_of_mem (f:=gq.sg) hx)
  unfold Eh at this;rw [Bool.and_eq_true] at this;exact this.1
theorem Sound.aku {p:Pl} (hp:Sound p) (hok:p.ah.all (lC p)=false):sJ p=false:=by
 rw [<- Bool.not_eq_true];intro h;unfold sJ at h;rw [Rl,hp.tY] at h
 have:p.ah.all (lC p)=true:=hp.acO.2 fun x hx=>by
  have:=h.1 _ (List.mem_map_of_mem (f:=gq.sg) hx)
  unfold Eh at this;rw [Bool.and_eq_true] at this;exact this.2
 rw [hok] at this
 cases this
def GV (l:List Nd):Int->Pt:=l.foldl (fun f n=>fun i=>if i=n.id then n.pt else f i) (fun _=>z0)
theorem akv (l:List Nd) (k:Nat) (hk:k<l.length):GV (l.take (k+1))=fun i=>if i=l[k].id then l[k].pt else GV (l.take k) i:=by
 unfold GV;rw [List.take_succ_eq_append_getElem hk,List.foldl_append];rfl
theorem akw (p:Pl) (h:(p.nodes.map (·.id)).Pairwise (· < ·)):GV p.nodes=nodeAt p:=by
 unfold nodeAt mJ;generalize p.nodes=l at *;have gen:∀ (l:List Nd) (f:Int->Pt),(l.map (·.id)).Pairwise (· < ·)->∀ i,(l.foldl (fun f n=>fun i=>if i=n.id then n.pt else f i) f) i=match l.find? (fun n=>n.id == i) with | some n=>n.pt | none=>f i:=by
  intro l
  induction l with
  | nil=>intro f _ i;rfl
  | cons a l ih =>
   intro f h i;rw [List.map_cons,List.pairwise_cons] at h;rw [List.foldl_cons,ih _ h.2];by_cases e:a.id=i
   ·rw [List.find?_cons_of_pos (by simp [e])]
    have:l.find? (fun n=>n.id == i)=none:=by
     rw [List.find?_eq_none];intro x hx;have:=h.1 x.id (List.mem_map_of_mem hx)
     simp;omega
    rw [this];simp [e]
   ·rw [List.find?_cons_of_neg (by simp [e])];split
    · rfl
    · rw [if_neg (fun e'=>e e'.symm)]
 funext i
 have:=gen l (fun _=>z0) h i
 unfold GV;rw [this]
 cases l.find? (fun n=>n.id == i)<;>rfl
open Go.RowKit Go.Sort
theorem NC {w w':World} (h:nI w w'):∃ q os',w'=grow (w.drewN q) os':=by
 obtain ⟨hb,hd⟩:=h;refine ⟨w'.drawn-w.drawn,w'.heap.extract w.heap.size w'.heap.size,?_⟩;have hh:w'.heap=w.heap++w'.heap.extract w.heap.size w'.heap.size:=by
  apply Array.ext
  · have:=hb.size;simp;omega
  ·intro i h1 h2;by_cases hi:i<w.heap.size
   ·rw [Array.getElem_append_left hi];have:=hb.block i hi
    rw [Array.getElem?_eq_getElem h1,Array.getElem?_eq_getElem hi] at this;injection this
   ·rw [Array.getElem_append_right (by omega),Array.getElem_extract];congr 1;omega
 have h1:=hb.os;have h2:=hb.tape;have h3:=hb.output
 cases w;cases w';simp only [grow,World.drewN,World.mk.injEq] at *;exact ⟨hh,h2,by omega,h1,h3⟩
section
variable {α:Type} [Inhabited α] (enc:α->List Value) (k:Nat) (w:World)
theorem JR (blk off m:Nat) (dk:Array α) (os:Array Obj):(sortWorldK enc k w blk off m dk os).heap=w.heap.modify blk (onCells (putCells id off (flatK enc k dk)))++os:=rfl
theorem EG (blk off m:Nat) (dk:Array α) (os:Array Obj):w.grownBy (sortWorldK enc k w blk off m dk os) (some blk):=by
 refine ⟨rfl,rfl,rfl,?_,fun i hi hne=>?_⟩
 · rw [JR];simp
 ·have hne':blk≠i:=fun e=>hne (by rw [e]);rw [JR,Array.getElem?_append_left (by simpa using hi),Array.getElem?_modify,if_neg hne']
end
theorem JU {α:Type} (f:α->Int) (x y:α):ltOf (fun x y=>lN (f x) (f y)) x y=decide (f x<f y):=by
 unfold ltOf lN;by_cases h:f x<f y
 · simp [h]
 · by_cases h':f y<f x<;>simp [h,h']
theorem Xc {α:Type} (f:α->Int):SWO (ltOf (fun x y:α=>lN (f x) (f y))) where
 irrefl x:=by rw [JU];simp
 trans x y z h1 h2:=by rw [JU] at *;simp at *;omega
 ntrans x y z h1 h2:=by rw [JU] at *;simp at *;omega
def akx (w:World) (base:Nat) (v:Value) (sl:List bP) (e:Ending) (w':World):Prop :=
 e=.returned (.tuple #[])/\∃ sl':List bP,sl'.Perm sl/\(∀ i j (hij:i<j) (hj:j<sl'.length),jA (sl'[i]'(by omega))<=jA sl'[j])/\Own w' base 230 2 jc v sl'/\(∀ s∈sl',fK w' s)/\w.grownBy w' v.ownBlock
theorem aky:∀ w,(isAgg 230).run Tryz.prog w=.ok true w:=fun _=>by kernel_rfl
theorem acR:∀ w,(Go.sizeOf 230).run Tryz.prog w=.ok 2 w:=fun _=>by kernel_rfl
theorem EH {α:Type} [Inhabited α] (enc:α->List Value) (k:Nat) (hk:∀ x,(enc x).length=k) (d:Array α) (j:Nat) (hj:j<d.size*k) :
  (flatK enc k d)[j]! = (d.toList.flatMap enc)[j]! := by
 rw [get_flatK _ _ _ _ hj];have hk0:0<k:=by
  rcases Nat.eq_zero_or_pos k with h | h
  · subst h;simp at hj
  · exact h
 have h1:j / k<d.size:=Nat.div_lt_of_lt_mul (by rw [Nat.mul_comm];exact hj);have h2:j % k<k:=Nat.mod_lt _ hk0;have e:=flat_get enc k hk d.toList (j / k) (j % k) (by simpa using h1) h2;rw [Nat.div_add_mod'] at e;rw [List.getElem!_eq_getElem?_getD,List.getElem!_eq_getElem?_getD,e];congr 2;rw [getElem!_pos d _ h1];simp
theorem akz (base:Nat) (v:Value) (sl:List bP) (w:World) (hown:Own w base 230 2 jc v sl) (hok:∀ s∈sl,fK w s) (hn:sl.length<=4294967296) :
  Calls Tryz.prog 226 #[v,.func (.func 227) #[] #[]] w (akx w base v sl):=by
 rcases sl with _ | ⟨s0,rest⟩
 ·have hv:∃ p cap,v=.slice p 0 cap:=by
   rcases hown.2 with ⟨h,_⟩ | ⟨g,cap,cur,h,_⟩
   · exact ⟨_,_,h⟩
   · exact ⟨_,_,h⟩
  obtain ⟨p,cap,rfl⟩:=hv;refine Calls.mono (AnyF.slices_SortFunc_none Tryz.sortSeg p cap (.func (.func 227) #[] #[]) w) ?_;rintro e w' ⟨rfl,rfl⟩;exact ⟨rfl,[],List.Perm.refl _,fun i j _ hj=>by simp at hj,hown,(fun s hs=>by cases hs),World.grownBy.refl _ _⟩
 generalize hsl:s0::rest=sl at *;have hs0:s0∈sl:=by rw [<- hsl];simp
 have hpos:0<sl.length:=by rw [<- hsl];simp
 obtain ⟨hlen,hown2⟩:=hown;rcases hown2 with ⟨_,h0⟩ | ⟨g,cap,cur,rfl,hg,hh,hnc,hcm,hcs,hx⟩
 · omega
 haveI hI:Inhabited {s:bP // fK w s}:=⟨⟨s0,hok s0 hs0⟩⟩
 have hdl:∃ dl:List {s:bP // fK w s},dl.map (·.1)=sl:=⟨sl.attachWith (fK w) hok,by simp⟩;obtain ⟨dl,hdl⟩:=hdl;have hdn:dl.length=sl.length:=by rw [<- hdl];simp
 have hfm:dl.flatMap (fun x=>jc x.1)=sl.flatMap jc:=by rw [<- hdl,List.flatMap_map]
 have hrow:∀ g',(some g:Option Nat)=some g'->∃ cs,aj w g' 230 cs:=fun g' e=>by injection e with e;subst e;exact ⟨cur,hh⟩
 have hcur:∀ j,j<sl.length*2->cur[j]? = (sl.flatMap jc)[j]? := fun j hj=>by
  rw [<- hx,List.getElem?_take,if_pos hj];simp
 have eg:∀ args w,(callFunc 227 args).run Tryz.prog w=.ok (.enter 227 args) w:=enters_of Tryz.func227 (by kernel_rfl) rfl;have hkk:∀ x:{s:bP // fK w s},(jc x.1).length=2:=fun _=>rfl;have hcmp:CmpLays Tryz.prog 227 #[] (fun x:{s:bP // fK w s}=>jc x.1) 2 (fun x y=>lN (jA x.1) (jA y.1)) g 0 dl.toArray.size w:=fun m os dk hdk x y=>by
  have hg':=EG (fun x:{s:bP // fK w s}=>jc x.1) 2 w g 0 m dk os;have hx:=x.2.grow hg' hrow (by decide) (by decide);have hy:=y.2.grow hg' hrow (by decide) (by decide);exact (akc x.1 y.1 _ hx hy).mono fun e w' h=>⟨h.1,NC h.2⟩
 have hsz:dl.toArray.size*2=sl.length*2:=by simp [hdn]
 have hH:HoldsK (fun x:{s:bP // fK w s}=>jc x.1) 2 w g 0 dl.toArray:=fun j hj=>by
  rw [size_flatK,hsz] at hj;refine ⟨?_,aj.frozen (t:=230) (cs:=cur) hh _⟩;rw [cell_of_row w g _ cur 230 (0,0) hh,Nat.zero_add,hcur j hj,EH _ 2 hkk _ j (by rw [hsz];exact hj)];simp only [id];rw [hfm,List.getElem!_eq_getElem?_getD]
  have:j<(sl.flatMap jc).length:=by rw [hlen];exact hj
  rw [List.getElem?_eq_getElem this];rfl
 have hcon:=AnyQ.slices_SortFunc Tryz.sortSeg 2 aky acR (fun x:{s:bP // fK w s}=>jc x.1) hkk (fun x=>acy x.1) (fun x y=>lN (jA x.1) (jA y.1)) (Xc fun x:{s:bP // fK w s}=>jA x.1) 227 #[] g 0 cap dl.toArray w eg hcmp hH (aj.lt hh) (by simp;omega);have hns:dl.toArray.size=sl.length:=by simp [hdn]
 rw [hns] at hcon;refine Calls.mono hcon ?_;rintro e w' ⟨rfl,d',n,os,hp,hs,rfl⟩;obtain ⟨p1,-,p3⟩:=hp;have hd':d'.size=sl.length:=by rw [p1,hns]
 have hperm:d'.toList.Perm dl:=by
  have e1:d'.extract 0 sl.length=d':=by rw [<- hd'];simp
  have e2:dl.toArray.extract 0 sl.length=dl.toArray:=by rw [<- hns];simp
  rw [e1,e2] at p3;simpa using p3
 have hg':=EG (fun x:{s:bP // fK w s}=>jc x.1) 2 w g 0 n d' os;refine ⟨rfl,d'.toList.map (·.1),by rw [<- hdl];exact hperm.map _,?_,?_,?_,hg'⟩
 ·intro i j hij hj;have hj':j<d'.size:=by simpa using hj
  have:=hs i j (Nat.zero_le _) hij (by rw [<- hd'];exact hj')
  rw [JU (fun x:{s:bP // fK w s}=>jA x.1),decide_eq_false_iff_not,getElem!_pos d' j hj',getElem!_pos d' i (by omega)] at this;simp only [List.getElem_map,Array.getElem_toList];omega
 ·have hl':(d'.toList.map (·.1)).length=sl.length:=by simp [hd']
  unfold Own;rw [hl'];have hfd:(d'.toList.map (·.1)).flatMap jc=d'.toList.flatMap (fun x=>jc x.1):=by rw [List.flatMap_map]
  have hln:((d'.toList.map (·.1)).flatMap jc).length=sl.length*2:=by rw [flat_length jc 2 Rf,hl']
  refine ⟨hln,.inr ⟨g,cap,putCells id 0 (flatK (fun x:{s:bP // fK w s}=>jc x.1) 2 d') cur,rfl,hg,?_,hnc,hcm,by simp [putCells,hcs],?_⟩⟩
  ·have hgl:g<w.heap.size:=aj.lt hh;rw [JR,Array.getElem?_append_left (by simpa using hgl),Array.getElem?_modify,if_pos rfl,hh];rfl
  ·apply List.ext_getElem?;intro j;rw [List.getElem?_take];by_cases hj:j<sl.length*2
   ·rw [if_pos hj,hfd];have hjc:j<cur.size:=by rw [hcs];have:=Nat.mul_le_mul_right 2 hnc;omega
    have hjd:j<d'.size*2:=by rw [hd'];exact hj
    have e1:(putCells id 0 (flatK (fun x:{s:bP // fK w s}=>jc x.1) 2 d') cur).toList[j]? = some (flatK (fun x:{s:bP // fK w s}=>jc x.1) 2 d')[j]! := by
     simp [putCells,hjc,hjd]
    rw [e1,EH _ 2 hkk _ j hjd,List.getElem!_eq_getElem?_getD]
    have:j<(d'.toList.flatMap fun x=>jc x.1).length:=by rw [<- hfd,hln];exact hj
    rw [List.getElem?_eq_getElem this];rfl
   · rw [if_neg hj,List.getElem?_eq_none (by rw [hln];omega)]
 ·intro s hs;obtain ⟨x,-,rfl⟩:=List.mem_map.1 hs;exact x.2.grow hg' hrow (by decide) (by decide)
end Go.Proofs.YtialfdomhoojiaaGreat
