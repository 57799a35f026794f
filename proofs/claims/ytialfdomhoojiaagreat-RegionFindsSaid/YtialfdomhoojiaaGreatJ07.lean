import Derived.Test.YtialfdomhoojiaaGreatJ06
import Derived.Shelf.SlSortCmp.NoneTotal
import Derived.Test.YtialfdomhoojiaaGreatLaySort
set_option linter.unusedSimpArgs false
set_option linter.unusedVariables false
namespace Go.Proofs.YtialfdomhoojiaaGreat
open Go.RowKit
theorem aow (a b c d:Pt) (h1:a.x<c.x) (h2:a.x<d.x) (h3:b.x<c.x) (h4:b.x<d.x):Jw a b c d=0:=by
 rw [Ve];have hac:CB a c=true:=(MH a c).2 (.inl h1);have had:CB a d=true:=(MH a d).2 (.inl h2);have hbc:CB b c=true:=(MH b c).2 (.inl h3);have hbd:CB b d=true:=(MH b d).2 (.inl h4);have hca:=PO hac;have hda:=PO had;have hcb:=PO hbc;have hdb:=PO hbd;have n1:c≠a:=fun e=>by subst e;omega
 have n2:d≠a:=fun e=>by subst e;omega
 have n3:c≠b:=fun e=>by subst e;omega
 have n4:d≠b:=fun e=>by subst e;omega
 obtain ⟨e1,e2,-⟩ | ⟨e1,e2,-⟩:=YE c d<;>obtain ⟨f1,f2,-⟩ | ⟨f1,f2,-⟩:=YE a b <;>
  rw [e1,e2,f1,f2]<;>simp [hi,lo,hac,had,hbc,hbd,hca,hda,hcb,hdb,n1,n2,n3,n4]
theorem aox {n s p q M:Int} (h0:0<=s) (h1:s<=n) (hp:p<=M) (hq:q<=M):n*p+s*(q-p)<=n*M:=by
 have e:n*M-(n*p+s*(q-p))=(n-s)*(M-p)+s*(M-q):=by grind
 have:=KQ (show 0<=n-s by omega) (show 0<=M-p by omega)
 have:=KQ h0 (show 0<=M-q by omega)
 omega
theorem aoy {n s p q M:Int} (h0:0<=s) (h1:s<=n) (hp:M<=p) (hq:M<=q):n*M<=n*p+s*(q-p):=by
 have e:(n*p+s*(q-p))-n*M=(n-s)*(p-M)+s*(q-M):=by grind
 have:=KQ (show 0<=n-s by omega) (show 0<=p-M by omega)
 have:=KQ h0 (show 0<=q-M by omega)
 omega
theorem ahY {n s u p q r t:Int} (hn:0<n) (h0:0<=s) (h1:s<=n) (h2:0<=u) (h3:u<=n) (hpr:max p q<min r t)
  (e:n*p+s*(q-p)=n*r+u*(t-r)):False:=by
 have l1:=aox (p:=p) (q:=q) (M:=max p q) h0 h1 AB AB;have l2:=aoy (p:=r) (q:=t) (M:=min r t) h2 h3 AB AB
 have:n*max p q<n*min r t:=Int.mul_lt_mul_of_pos_left hpr hn
 omega
theorem aoz (a b c d:Pt) (h:max a.x b.x<min c.x d.x):JJ a b c d=0:=by
 rw [uF];unfold Fp;split
 case isFalse => rfl
 unfold Me;have id1:BM a b c d*a.x+BM a c c d*(b.x-a.x)=BM a b c d*c.x+BM a c a b*(d.x-c.x):=by unfold BM;grind
 split
 · rfl
 split
 ·split
  · exact aow a b c d AB AB AB AB
  · rfl
 split
 ·rename_i hn;split
  ·rename_i hh;obtain ⟨q1,q2,q3,q4⟩:=hh;exact (ahY (n:=-BM a b c d) (s:=-BM a c c d) (u:=-BM a c a b) AB q1 q2 q3 q4 h (by
    rw [OZ,OZ,OZ,OZ];omega)).elim
  · rfl
 ·rename_i h0 hn;split
  ·rename_i hh;obtain ⟨q1,q2,q3,q4⟩:=hh;exact (ahY (n:=BM a b c d) (s:=BM a c c d) (u:=BM a c a b) AB q1 q2 q3 q4 h id1).elim
  · rfl
theorem ap0 (a b c d:Pt):Fp a b c d=Fp c d a b:=by
 have hn:Dy [a,b,c,d]=Dy [c,d,a,b]:=by
  rw [LX];simp [Dy];constructor<;>(rintro ⟨h1,h2,h3,h4⟩;exact ⟨h3,h4,h1,h2⟩)
 unfold Fp;rw [hn];split
 case isFalse => rfl
 unfold Me;have e0:BM c d a b=- BM a b c d:=by unfold BM;grind
 have e1:BM c a a b=BM a c a b*(-1):=by unfold BM;grind
 have e2:BM c a c d=BM a c c d*(-1):=by unfold BM;grind
 have e3:BM a b c d=- BM c d a b:=by rw [e0];omega
 by_cases h1:a=b/\c=d/\¬ a=c
 · rw [AZ h1,AZ ⟨h1.2.1,h1.1,fun e=>h1.2.2 e.symm⟩]
 rw [AX h1,AX (show ¬ (c=d/\a=b/\¬ c=a) from fun e=>h1 ⟨e.2.1,e.1,fun e'=>e.2.2 e'.symm⟩)];rw [e0,e1,e2];by_cases hz:BM a b c d=0
 ·rw [AZ hz,AZ (show-BM a b c d=0 by omega),XF a b c d];by_cases hh:BM a b a c=0/\BM a b a d=0/\BM c d c a=0/\BM c d c b=0
  · rw [AZ hh,AZ (show BM c d c a=0/\BM c d c b=0/\BM a b a c=0/\BM a b a d=0 from ⟨hh.2.2.1,hh.2.2.2,hh.1,hh.2.1⟩)]
  · rw [AX hh,AX (show ¬ (BM c d c a=0/\BM c d c b=0/\BM a b a c=0/\BM a b a d=0) from fun e=>hh ⟨e.2.2.1,e.2.2.2,e.1,e.2.1⟩)]
 ·rw [AX hz,AX (show ¬ - BM a b c d=0 by omega)];by_cases hneg:BM a b c d<0
  ·rw [AZ hneg,AX (show ¬ - BM a b c d<0 by omega)];congr 1;simp only [eq_iff_iff];omega
  ·rw [AX hneg,AZ (show-BM a b c d<0 by omega)];congr 1;simp only [eq_iff_iff];omega
theorem ap1 (a b c d:Pt):JJ a b c d=JJ c d a b:=by rw [uF,uF,ap0]
def G5.fst (s:G5):Pt:=s.path.getD s.k AY
def G5.snd (s:G5):Pt:=s.path.getD (s.k+1) AY
def G5.west (s:G5):Int:=min s.fst.x s.snd.x
def G5.east (s:G5):Int:=max s.fst.x s.snd.x
def G5.sg (s:G5):Sg:=⟨s.arc,s.k,s.path.length-1,s.fst,s.snd⟩
def mg (a b:G5):Bool:=decide (a.k+1=b.k) || ((a.arc.fr == a.arc.dst) && decide (a.k=0) && decide ((b.k:Int)=(b.path.length:Int)-2))
def aBJ (m:Int) (a b:G5):Bool:=if mg a b then m == 1 else m == 0
def aBK (f:Int->Pt) (s t:G5) (id:Int):Bool:=(id == t.arc.fr || id == t.arc.dst) && EO s.fst s.snd (f id) && EO t.fst t.snd (f id)
def VO (f:Int->Pt) (s t:G5):Bool :=
 if s.arc.id=t.arc.id then (if t.k<s.k then aBJ (JJ s.fst s.snd t.fst t.snd) t s else aBJ (JJ s.fst s.snd t.fst t.snd) s t)
 else if JJ s.fst s.snd t.fst t.snd=1 then aBK f s t s.arc.fr || aBK f s t s.arc.dst
 else JJ s.fst s.snd t.fst t.snd == 0
theorem ahZ (f:Int->Pt) (s t:DN):Oj f s t=VO f s.abs t.abs:=rfl
def aby (s:G5) (n:Nd):Bool:=!(EO s.fst s.snd n.pt && !(((s.k:Int) == 0) && (s.arc.fr == n.id)) && !(((s.k:Int) == (s.path.length:Int)-2) && (s.arc.dst == n.id)))
def Ld (s:DN) (n:Nd):Bool:=aby s.abs n
def agk (f:Int->Pt) (nl:List Nd) (sl:List DN):Prop :=
 (∀ i j (_:i<j) (hj:j<sl.length),Ih sl[j]<=Oh (sl[i]'(by omega))->Oj f (sl[i]'(by omega)) sl[j]=true)/\∀ s∈sl,∀ n∈nl,Ld s n=true
theorem uo (l:List Int) (h:PI l=true):l.Pairwise (· < ·):=by
 have h1:∀ j (hj:j+1<l.length),l[j]<l[j+1]:=fun j hj=>by
  unfold PI at h;rw [JF] at h;have:=h j (F5.2 AB)
  simpa [List.getD,DK hj,DK (show j<l.length by omega)] using this
 have h2:∀ d i (hi:i+d+1<l.length),l[i]'(by omega)<l[i+d+1]:=by
  intro d
  induction d with
  | zero=>intro i hi;exact h1 i hi
  | succ d ih=>intro i hi;have:=ih i AB;have:=h1 (i+d+1) AB;simp only [Nat.add_assoc] at *;omega
 rw [Fe];intro i j hi hj hij;have:=h2 (j-i-1) i AB
 simp only [show i+(j-i-1)+1=j by omega] at this;exact this
theorem abz {α:Type} (l:List α) (f:α->Bool) (g:α->α->Bool):Zl l f g=true↔(∀ x∈l,f x=true)/\l.Pairwise (fun s t=>g s t=true):=by
 constructor
 ·intro h;constructor
  ·intro x hx;obtain ⟨i,hi,rfl⟩:=Dp.1 hx
   cases hf:f l[i]
   · rw [ahH l f g i hi hf] at h;cases h
   · rfl
  ·rw [Fe];intro k i hk hi hki
   cases hg:g l[k] l[i]
   · rw [ahI l f g i k hki hi hg] at h;cases h
   · rfl
 ·rintro ⟨h1,h2⟩;rw [Fe] at h2;exact ahJ l f g (fun i hi=>h1 _ (BH hi)) (fun i k hk hi=>h2 k i AB hi hk)
structure Sound (p:Pl):Prop where
 nodes:(p.nodes.map (·.id)).Pairwise (· < ·)
 AU:(p.AU.map (·.id)).Pairwise (· < ·)
 ends:∀ a∈p.AU,KY p a=true
theorem aBL {α:Type} (f:α->Int) (l:List α) (h:(l.map f).Pairwise (· < ·)) (a:α) (ha:a∈l):l.find? (fun x=>f x == f a)=some a:=by
 induction l with
 | nil=>cases ha
 | cons b l ih =>
  rw [Ez,JC] at h;rcases EJ.1 ha with rfl | ha'
  · simp
  ·have:=h.1 (f a) (Gs ha')
   rw [List.find?_cons_of_neg DC];exact ih h.2 ha'
theorem Sound.path {p:Pl} (hp:Sound p) {a:Ar} (ha:a∈p.AU):pathOf p a.id=some (AV p a):=by
 unfold pathOf findAr;rw [aBL (·.id) p.AU hp.AU a ha];simp [hp.ends a ha]
theorem Sound.nC {p:Pl} (hp:Sound p) {a:Ar} (ha:a∈p.AU):FK p a=(List.range ((AV p a).length-1)).map fun k=>⟨a,AV p a,k⟩:=by
 unfold FK;rw [hp.path ha];rfl
theorem Sound.mem {p:Pl} (hp:Sound p) {x:G5} (hx:x∈p.AU.flatMap (FK p)):x.arc∈p.AU/\x.path=AV p x.arc/\x.k+1<x.path.length:=by
 obtain ⟨a,ha,hx⟩:=GY.1 hx;rw [hp.nC ha] at hx;obtain ⟨k,hk,rfl⟩:=EM.1 hx;have:=F5.1 hk
 exact ⟨ha,rfl,by show k+1<(AV p a).length;omega⟩
theorem Sound.QM {p:Pl} (hp:Sound p) {x:Nd} (hx:x∈p.nodes):nodeAt p x.id=x.pt:=by
 unfold nodeAt JK;rw [aBL (·.id) p.nodes hp.nodes x hx];rfl
theorem Sound.aBM {p:Pl} (hp:Sound p) {a:Ar} (ha:a∈p.AU):(∃ x∈p.nodes,x.id=a.fr)/\∃ x∈p.nodes,x.id=a.dst:=by
 have h:=hp.ends a ha;unfold KY at h;rw [Em] at h;obtain ⟨h1,h2⟩:=h;obtain ⟨x,hx⟩:=Option.isSome_iff_exists.1 h1;obtain ⟨y,hy⟩:=Option.isSome_iff_exists.1 h2;exact ⟨⟨x,VG hx,by simpa using List.find?_some hx⟩,⟨y,VG hy,by simpa using List.find?_some hy⟩⟩
theorem Sound.Qx {p:Pl} (hp:Sound p):Ud p=(p.AU.flatMap (FK p)).map G5.sg:=by
 unfold Ud;rw [rQ];have:∀ l:List Ar,(∀ a∈l,a∈p.AU)->l.flatMap (fun a=>Lc a (AV p a))=l.flatMap (fun a=>(FK p a).map G5.sg):=by
  intro l
  induction l with
  | nil=>intro _;rfl
  | cons a l ih =>
   intro h;rw [Ju,Ju,ih (fun b hb=>h b (by simp [hb])),hp.nC (h a Aw),Mc];rfl
 exact this _ fun a ha=>ha
theorem Sound.pw {p:Pl} (hp:Sound p):(p.AU.flatMap (FK p)).Pairwise (fun x y=>x.arc.id=y.arc.id->x.arc=y.arc/\x.k<y.k):=by
 rw [aA9];constructor
 ·intro a ha;rw [hp.nC ha,IL];exact List.pairwise_lt_range.imp fun h _=>⟨rfl,h⟩
 ·have h:=hp.AU;rw [IL] at h;refine (List.Pairwise.and_mem.1 h).imp ?_;rintro a b ⟨ha,hb,hlt⟩ x hx y hy he;rw [hp.nC ha] at hx;rw [hp.nC hb] at hy;obtain ⟨k,-,rfl⟩:=EM.1 hx;obtain ⟨m,-,rfl⟩:=EM.1 hy;have he':a.id=b.id:=he;omega
theorem Sound.ap2 {p:Pl} (hp:Sound p) {x:G5} (hx:x∈p.AU.flatMap (FK p)) (h:x.k=0):x.fst=nodeAt p x.arc.fr:=by
 obtain ⟨-,h2,-⟩:=hp.mem hx;unfold G5.fst;rw [h2,h];rfl
theorem Sound.ap3 {p:Pl} (hp:Sound p) {x:G5} (hx:x∈p.AU.flatMap (FK p)) (h:(x.k:Int)=(x.path.length:Int)-2):x.snd=nodeAt p x.arc.dst:=by
 obtain ⟨-,h2,h3⟩:=hp.mem hx;unfold G5.snd
 have:x.k+1=x.arc.via.length+1:=by rw [h2,Eh] at h;omega
 rw [h2,this];unfold AV;rw [aal,Fj,List.getElem?_append_right (DT _)];simp
theorem Sound.chain {p:Pl} (hp:Sound p) {x y:G5} (hx:x∈p.AU.flatMap (FK p)) (hy:y∈p.AU.flatMap (FK p)) (ha:x.arc=y.arc) (hc:mg x y=true):x.west<=y.east/\y.west<=x.east:=by
 have ap4:x.path=y.path:=by rw [(hp.mem hx).2.1,(hp.mem hy).2.1,ha]
 unfold mg at hc;rw [L6] at hc;unfold G5.west G5.east;rcases hc with hc | hc
 ·have hk:x.k+1=y.k:=by simpa using hc
  have e:x.snd=y.fst:=by unfold G5.snd G5.fst;rw [ap4,hk]
  rw [e];omega
 ·simp only [Em,E8,beq_iff_eq] at hc;obtain ⟨⟨h1,h2⟩,h3⟩:=hc;have e:x.fst=y.snd:=by rw [hp.ap2 hx h2,hp.ap3 hy h3,h1,ha]
  rw [e];omega
theorem Sound.ap5 {p:Pl} (hp:Sound p) (f:Int->Pt) {x y:G5} (hx:x∈p.AU.flatMap (FK p)) (hy:y∈p.AU.flatMap (FK p)) (hd:x.arc.id=y.arc.id->x.arc=y.arc) (h:x.east<y.west):VO f x y=true:=by
 have hm:JJ x.fst x.snd y.fst y.snd=0:=aoz _ _ _ _ h;have hle:y.west<=y.east:=by unfold G5.west G5.east;omega
 have hle':x.west<=x.east:=by unfold G5.west G5.east;omega
 unfold VO;rw [hm];by_cases hid:x.arc.id=y.arc.id
 ·have ha:=hd hid;rw [AZ hid];have n1:mg x y=false:=by
   rw [<- Iz];intro hc;have:=hp.chain hx hy ha hc;omega
  have n2:mg y x=false:=by
   rw [<- Iz];intro hc;have:=hp.chain hy hx ha.symm hc;omega
  simp [aBJ,n1,n2]
 · simp [hid]
theorem Sound.sym {p:Pl} {x y:G5} (hd:x.arc.id=y.arc.id->x.k≠y.k):VO (nodeAt p) x y=VO (nodeAt p) y x:=by
 unfold VO;rw [ap1 y.fst y.snd x.fst x.snd];by_cases hid:x.arc.id=y.arc.id
 ·have hk:=hd hid;rw [AZ hid,AZ hid.symm];by_cases hlt:y.k<x.k
  · rw [AZ hlt,AX (show ¬ x.k<y.k by omega)]
  · rw [AX hlt,AZ (show x.k<y.k by omega)]
 ·rw [AX hid,AX (show ¬ y.arc.id=x.arc.id from fun e=>hid e.symm)];split
  ·rw [LX];simp only [aBK,L6,Em,beq_iff_eq];constructor
   · rintro (⟨⟨h1,h2⟩,h3⟩ | ⟨⟨h1,h2⟩,h3⟩)<;>rcases h1 with h1 | h1<;>rw [h1] at h2 h3<;>simp [h1,h2,h3]
   · rintro (⟨⟨h1,h2⟩,h3⟩ | ⟨⟨h1,h2⟩,h3⟩)<;>rcases h1 with h1 | h1<;>rw [h1] at h2 h3<;>simp [h1,h2,h3]
  · rfl
theorem Sound.pair {p:Pl} (hp:Sound p) {x y:G5} (hx:x∈p.AU.flatMap (FK p)) (hy:y∈p.AU.flatMap (FK p)) (hd:x.arc.id=y.arc.id->x.arc=y.arc/\x.k<y.k):PV p x.sg y.sg=VO (nodeAt p) x y:=by
 obtain ⟨mx,px,kx⟩:=hp.mem hx;obtain ⟨my,py,ky⟩:=hp.mem hy;unfold PV VO
 show (if x.arc.id=y.arc.id then _ else _)=_
 by_cases hid:x.arc.id=y.arc.id
 ·obtain ⟨ha,hk⟩:=hd hid;rw [AZ hid,AZ hid,AX (show ¬ y.k<x.k by omega)];unfold UD aBJ mg;rw [uF]
  show (if y.k=x.k+1\/(x.k=0/\y.k+1=y.path.length-1/\x.arc.fr=x.arc.dst) then Fp x.fst x.snd y.fst y.snd == 1 else Fp x.fst x.snd y.fst y.snd == 0)=_
  have:(y.k=x.k+1\/(x.k=0/\y.k+1=y.path.length-1/\x.arc.fr=x.arc.dst))↔(decide (x.k+1=y.k) || ((x.arc.fr == x.arc.dst) && decide (x.k=0) && decide ((y.k:Int)=(y.path.length:Int)-2)))=true:=by
   simp only [L6,Em,E8,beq_iff_eq];constructor
   ·rintro (h | ⟨h1,h2,h3⟩)
    · left;omega
    · right;exact ⟨⟨h3,h1⟩,AB⟩
   ·rintro (h | ⟨⟨h1,h2⟩,h3⟩)
    · left;omega
    · right;exact ⟨h2,AB,h1⟩
  simp only [this]
 ·rw [AX hid,AX hid];unfold PU;rw [uF]
  show (if Fp x.fst x.snd y.fst y.snd=1 then _ else Fp x.fst x.snd y.fst y.snd == 0)=_
  split
  ·rw [LX,PE];simp only [Oe,Vf,aBK,L6,Em,beq_iff_eq,G5.sg,<- acL];constructor
   ·rintro ⟨n,hn,⟨⟨⟨h1,h2⟩,h3⟩,h4⟩⟩;have hpt:=hp.QM hn;rw [<- hpt] at h3 h4;rcases h1 with h1 | h1
    ·left;rw [h1];exact ⟨⟨by rcases h2 with h2 | h2<;>simp [h2],h3⟩,h4⟩
    ·right;rw [h1];exact ⟨⟨by rcases h2 with h2 | h2<;>simp [h2],h3⟩,h4⟩
   ·obtain ⟨⟨n1,hn1,e1⟩,⟨n2,hn2,e2⟩⟩:=hp.aBM mx;rintro (⟨⟨h1,h2⟩,h3⟩ | ⟨⟨h1,h2⟩,h3⟩)
    ·refine ⟨n1,hn1,⟨⟨⟨.inl e1.symm,by rcases h1 with h1 | h1<;>simp [e1,h1]⟩,?_⟩,?_⟩⟩
     · rw [<- hp.QM hn1,e1];exact h2
     · rw [<- hp.QM hn1,e1];exact h3
    ·refine ⟨n2,hn2,⟨⟨⟨.inr e2.symm,by rcases h1 with h1 | h1<;>simp [e2,h1]⟩,?_⟩,?_⟩⟩
     · rw [<- hp.QM hn2,e2];exact h2
     · rw [<- hp.QM hn2,e2];exact h3
  · rfl
theorem Sound.free {p:Pl} (hp:Sound p) {x:G5} (hx:x∈p.AU.flatMap (FK p)) (n:Nd):aby x n=Ro x.sg n:=by
 obtain ⟨mx,px,kx⟩:=hp.mem hx;unfold aby Ro Rl;rw [acL]
 show _=((((x.k:Int) == 0) && (x.arc.fr == n.id)) || (((x.k:Int) == ((x.path.length-1:Nat):Int)-1) && (x.arc.dst == n.id)) || !LZ x.fst x.snd n.pt)
 rw [show ((x.path.length-1:Nat):Int)-1=(x.path.length:Int)-2 by omega]
 cases LZ x.fst x.snd n.pt<;>cases (((x.k:Int) == 0) && (x.arc.fr == n.id))<;>cases (((x.k:Int) == (x.path.length:Int)-2) && (x.arc.dst == n.id))<;>rfl
theorem Sound.agl {p:Pl} (hp:Sound p):p.AU.all (Ko p)=true↔∀ x∈p.AU.flatMap (FK p),Uc x.sg=true:=by
 rw [JF];constructor
 ·intro h x hx;obtain ⟨mx,px,kx⟩:=hp.mem hx;have ha:=h _ mx;unfold Ko at ha;rw [hp.path mx] at ha;simp only [Em,Ru,aas,beq_eq_false_iff_ne,J3] at ha;obtain ⟨h1,h2⟩:=ha;rw [<- px] at h1 h2;unfold Uc;simp only [Em,Ru,J3,L6,bne_iff_ne,E8]
  show ¬ x.fst=x.snd/\(x.arc.fr≠x.arc.dst\/3<=((x.path.length-1:Nat):Int))
  constructor
  ·intro e;unfold Yp at h2;rw [JF] at h2;have:=h2 x.k (F5.2 AB)
   simp only [Ru,J3] at this;exact this e
  ·rcases h1 with h1 | h1
   · exact .inl h1
   · right;omega
 ·intro h a ha;unfold Ko;rw [hp.path ha];have hmem:∀ k,k+1<(AV p a).length->(⟨a,AV p a,k⟩:G5)∈p.AU.flatMap (FK p):=fun k hk=>by
   refine GY.2 ⟨a,ha,?_⟩;rw [hp.nC ha];exact EM.2 ⟨k,F5.2 AB,rfl⟩
  have hs:∀ k,k+1<(AV p a).length->¬ (AV p a).getD k AY=(AV p a).getD (k+1) AY/\(a.fr≠a.dst\/3<=(((AV p a).length-1:Nat):Int)):=fun k hk=>by
   have:=h _ (hmem k hk)
   unfold Uc at this;simp only [Em,Ru,J3,L6,bne_iff_ne,E8] at this;exact this
  have hl:=Eh p a;simp only [Em,Ru,aas,beq_eq_false_iff_ne,J3];constructor
  ·rcases (hs 0 AB).2 with h1 | h1
   · exact .inl h1
   · right;omega
  ·unfold Yp;rw [JF];intro k hk;have hk:=F5.1 hk;simpa using (hs k AB).1
theorem Sound.ap6 {p:Pl} (hp:Sound p) (hok:p.AU.all (Ko p)=true) (sl:List DN) (hs:(sl.map DN.abs).Perm (p.AU.flatMap (FK p))):agk (nodeAt p) p.nodes sl↔Og p=true:=by
 generalize hL:p.AU.flatMap (FK p)=L at *;have dI:∀ {x},x∈L->x∈p.AU.flatMap (FK p):=fun h=>by rw [hL];exact h
 have hpw:L.Pairwise (fun x y=>x.arc.id=y.arc.id->x.arc=y.arc/\x.k<y.k):=by rw [<- hL];exact hp.pw
 have hdist:L.Pairwise (fun x y=>x.arc.id=y.arc.id->x.arc=y.arc/\x.k≠y.k):=hpw.imp fun h e=>⟨(h e).1,by have:=(h e).2;omega⟩;have agm:(sl.map DN.abs).Pairwise (fun x y=>x.arc.id=y.arc.id->x.arc=y.arc/\x.k≠y.k) :=
  (hs.pairwise_iff (fun h e=>⟨(h e.symm).1.symm,fun e'=>(h e.symm).2 e'.symm⟩)).2 hdist
 have agn:∀ {x},x∈sl.map DN.abs->x∈p.AU.flatMap (FK p):=fun h=>dI (hs.mem_iff.1 h)
 let R:G5->G5->Prop:=fun x y=>VO (nodeAt p) x y=true/\VO (nodeAt p) y x=true
 have h1:(sl.map DN.abs).Pairwise R↔L.Pairwise R:=hs.pairwise_iff (fun h=>⟨h.2,h.1⟩);have h2:L.Pairwise R↔(L.map G5.sg).Pairwise (fun s t=>PV p s t=true):=by
  rw [IL,Fe,Fe];rw [Fe] at hpw;constructor
  ·intro h i j hi hj hij;rw [hp.pair (dI (BH hi)) (dI (BH hj)) (hpw i j hi hj hij)];exact (h i j hi hj hij).1
  ·intro h i j hi hj hij;have hh:=h i j hi hj hij;have ho:=hpw i j hi hj hij;rw [hp.pair (dI (BH hi)) (dI (BH hj)) ho] at hh;refine ⟨hh,?_⟩;rw [<- Sound.sym (p:=p) (fun e=>by have:=(ho e).2;omega)];exact hh
 have h3:(∀ i j (_:i<j) (hj:j<sl.length),Ih sl[j]<=Oh (sl[i]'(by omega))->Oj (nodeAt p) (sl[i]'(by omega)) sl[j]=true)↔(sl.map DN.abs).Pairwise R:=by
  rw [Fe];rw [Fe] at agm;constructor
  ·intro h i j hi hj hij;have hj':j<sl.length:=by simpa using hj
   have mi:=agn (BH hi);have mj:=agn (BH hj);have hd:=agm i j hi hj hij;have hc:VO (nodeAt p) ((sl.map DN.abs)[i]) ((sl.map DN.abs)[j])=true:=by
    by_cases hw:Ih sl[j]<=Oh (sl[i]'(by omega))
    ·have:=h i j hij hj' hw
     rw [ahZ] at this;simpa using this
    ·refine hp.ap5 (nodeAt p) mi mj (fun e=>(hd e).1) ?_;have hlt:Oh (sl[i]'(by omega))<Ih sl[j]:=by omega
     rw [Gq,Gq];exact hlt
   refine ⟨hc,?_⟩;rw [<- Sound.sym (p:=p) (fun e=>(hd e).2)];exact hc
  ·intro h i j hij hj _;have:=(h i j DC (by simpa using hj) hij).1
   rw [ahZ];simpa using this
 have h4:(∀ s∈sl,∀ n∈p.nodes,Ld s n=true)↔∀ x∈L,p.nodes.all (Ro x.sg)=true:=by
  constructor
  ·intro h x hx;rw [JF];intro n hn;obtain ⟨s,hs',rfl⟩:=EM.1 (hs.mem_iff.2 hx);rw [<- hp.free (dI hx)];exact h s hs' n hn
  ·intro h s hs' n hn;have hx:=hs.mem_iff.1 (Gs (f:=DN.abs) hs');have:=JF.1 (h _ hx) n hn
   unfold Ld;rw [hp.free (dI hx)];exact this
 unfold agk Og;rw [hp.Qx,hL,abz,h3,h1,h2,h4,and_comm];refine and_congr_left fun _=>?_;constructor
 ·intro h s hs';obtain ⟨x,hx,rfl⟩:=EM.1 hs';unfold Qv;rw [h x hx,hp.agl.1 hok x (dI hx)];rfl
 ·intro h x hx;have:=h _ (Gs (f:=G5.sg) hx)
  unfold Qv at this;rw [Em] at this;exact this.1
theorem Sound.ap7 {p:Pl} (hp:Sound p) (hok:p.AU.all (Ko p)=false):Og p=false:=by
 rw [<- Iz];intro h;unfold Og at h;rw [abz,hp.Qx] at h
 have:p.AU.all (Ko p)=true:=hp.agl.2 fun x hx=>by
  have:=h.1 _ (Gs (f:=G5.sg) hx)
  unfold Qv at this;rw [Em] at this;exact this.2
 rw [hok] at this
 cases this
def jA (l:List Nd):Int->Pt:=l.foldl (fun f n=>fun i=>if i=n.id then n.pt else f i) (fun _=>z0)
theorem ap8 (l:List Nd) (k:Nat) (hk:k<l.length):jA (l.take (k+1))=fun i=>if i=l[k].id then l[k].pt else jA (l.take k) i:=by
 unfold jA;rw [En hk,O9];rfl
theorem ap9 (p:Pl) (h:(p.nodes.map (·.id)).Pairwise (· < ·)):jA p.nodes=nodeAt p:=by
 unfold nodeAt JK;generalize p.nodes=l at *;have gen:∀ (l:List Nd) (f:Int->Pt),(l.map (·.id)).Pairwise (· < ·)->∀ i,(l.foldl (fun f n=>fun i=>if i=n.id then n.pt else f i) f) i=match l.find? (fun n=>n.id == i) with | some n=>n.pt | none=>f i:=by
  intro l
  induction l with
  | nil=>intro f _ i;rfl
  | cons a l ih =>
   intro f h i;rw [Ez,JC] at h;rw [U5,ih _ h.2];by_cases e:a.id=i
   ·rw [List.find?_cons_of_pos (by simp [e])]
    have:l.find? (fun n=>n.id == i)=none:=by
     rw [List.find?_eq_none];intro x hx;have:=h.1 x.id (Gs hx)
     simp;omega
    rw [this];simp [e]
   ·rw [List.find?_cons_of_neg (by simp [e])];split
    · rfl
    · rw [AX (fun e'=>e e'.symm)]
 funext i
 have:=gen l (fun _=>z0) h i
 unfold jA;rw [this]
 cases l.find? (fun n=>n.id == i)<;>rfl
open Go.RowKit Go.Sort
theorem uq {w w':World} (h:NZ w w'):∃ q os',w'=grow (w.drewN q) os':=by
 obtain ⟨hb,hd⟩:=h;refine ⟨w'.drawn-w.drawn,w'.heap.extract w.heap.size w'.heap.size,?_⟩;have hh:w'.heap=w.heap++w'.heap.extract w.heap.size w'.heap.size:=by
  apply Array.ext
  · have:=hb.size;simp;omega
  ·intro i h1 h2;by_cases hi:i<w.heap.size
   ·rw [Array.getElem_append_left hi];have:=hb.block i hi
    rw [Array.getElem?_eq_getElem h1,Array.getElem?_eq_getElem hi] at this;injection this
   ·rw [Array.getElem_append_right AB,Array.getElem_extract];congr 1;omega
 have h1:=hb.os;have h2:=hb.tape;have h3:=hb.output
 cases w;cases w';simp only [grow,World.drewN,World.mk.injEq] at *;exact ⟨hh,h2,AB,h1,h3⟩
section
variable {α:Type} [Inhabited α] (enc:α->List Value) (k:Nat) (w:World)
theorem nD (blk off m:Nat) (dk:Array α) (os:Array Obj):(sortWorldK enc k w blk off m dk os).heap=w.heap.modify blk (onCells (putCells id off (flatK enc k dk)))++os:=rfl
theorem dJ (blk off m:Nat) (dk:Array α) (os:Array Obj):w.grownBy (sortWorldK enc k w blk off m dk os) (some blk):=by
 refine ⟨rfl,rfl,rfl,?_,fun i hi hne=>?_⟩
 · rw [nD];simp
 ·have hne':blk≠i:=fun e=>hne Rw;rw [nD,Array.getElem?_append_left lS,Array.getElem?_modify,AX hne']
end
theorem nG {α:Type} (f:α->Int) (x y:α):ltOf (fun x y=>KC (f x) (f y)) x y=decide (f x<f y):=by
 unfold ltOf KC;by_cases h:f x<f y
 · simp [h]
 · by_cases h':f y<f x<;>simp [h,h']
theorem adL {α:Type} (f:α->Int):SWO (ltOf (fun x y:α=>KC (f x) (f y))) where
 irrefl x:=by rw [nG];simp
 trans x y z h1 h2:=by rw [nG] at *;simp at *;omega
 ntrans x y z h1 h2:=by rw [nG] at *;simp at *;omega
def aoa (w:World) (base:Nat) (v:Value) (sl:List DN) (e:Ending) (w':World):Prop :=
 e=.returned (.tuple #[])/\∃ sl':List DN,sl'.Perm sl/\(∀ i j (hij:i<j) (hj:j<sl'.length),Ih (sl'[i]'(by omega))<=Ih sl'[j])/\Own w' base 230 2 IW v sl'/\(∀ s∈sl',FV w' s)/\w.grownBy w' v.ownBlock
theorem aob:∀ w,(isAgg 230).run Tryz.prog w=.ok true w:=fun _=>by kernel_rfl
theorem agp:∀ w,(Go.sizeOf 230).run Tryz.prog w=.ok 2 w:=fun _=>by kernel_rfl
theorem dK {α:Type} [Inhabited α] (enc:α->List Value) (k:Nat) (hk:∀ x,(enc x).length=k) (d:Array α) (j:Nat) (hj:j<d.size*k) :
  (flatK enc k d)[j]! = (d.toList.flatMap enc)[j]! := by
 rw [get_flatK _ _ _ _ hj];have hk0:0<k:=by
  rcases VF k with h | h
  · subst h;simp at hj
  · exact h
 have h1:j / k<d.size:=ab4 (by rw [sJ];exact hj);have h2:j % k<k:=U7 _ hk0;have e:=flat_get enc k hk d.toList (j / k) (j % k) (by simpa using h1) h2;rw [sK] at e;rw [List.getElem!_eq_getElem?_getD,List.getElem!_eq_getElem?_getD,e];congr 2;rw [getElem!_pos d _ h1];simp
theorem aoc (base:Nat) (v:Value) (sl:List DN) (w:World) (hown:Own w base 230 2 IW v sl) (hok:∀ s∈sl,FV w s) (hn:sl.length<=4294967296) :
  Calls Tryz.prog 226 #[v,.func (.func 227) #[] #[]] w (aoa w base v sl):=by
 rcases sl with _ | ⟨s0,rest⟩
 ·have hv:∃ p cap,v=.slice p 0 cap:=by
   rcases hown.2 with ⟨h,_⟩ | ⟨g,cap,cur,h,_⟩
   · exact ⟨_,_,h⟩
   · exact ⟨_,_,h⟩
  obtain ⟨p,cap,rfl⟩:=hv;refine Calls.mono (AnyF.slices_SortFunc_none Tryz.sortSeg p cap (.func (.func 227) #[] #[]) w) ?_;rintro e w' ⟨rfl,rfl⟩;exact ⟨rfl,[],List.Perm.refl _,fun i j _ hj=>by simp at hj,hown,(fun s hs=>by cases hs),World.grownBy.refl _ _⟩
 generalize hsl:s0::rest=sl at *;have hs0:s0∈sl:=by rw [<- hsl];simp
 have hpos:0<sl.length:=by rw [<- hsl];simp
 obtain ⟨hlen,hown2⟩:=hown;rcases hown2 with ⟨_,h0⟩ | ⟨g,cap,cur,rfl,hg,hh,hnc,hcm,hcs,hx⟩
 · omega
 haveI hI:Inhabited {s:DN // FV w s}:=⟨⟨s0,hok s0 hs0⟩⟩
 have hdl:∃ dl:List {s:DN // FV w s},dl.map (·.1)=sl:=⟨sl.attachWith (FV w) hok,Aw⟩;obtain ⟨dl,hdl⟩:=hdl;have hdn:dl.length=sl.length:=by rw [<- hdl];simp
 have hfm:dl.flatMap (fun x=>IW x.1)=sl.flatMap IW:=by rw [<- hdl,P9]
 have hrow:∀ g',(some g:Option Nat)=some g'->∃ cs,AO w g' 230 cs:=fun g' e=>by injection e with e;subst e;exact ⟨cur,hh⟩
 have hcur:∀ j,j<sl.length*2->cur[j]? = (sl.flatMap IW)[j]? := fun j hj=>by
  rw [<- hx,List.getElem?_take,AZ hj];simp
 have eg:∀ args w,(callFunc 227 args).run Tryz.prog w=.ok (.enter 227 args) w:=enters_of Tryz.func227 FC rfl;have hkk:∀ x:{s:DN // FV w s},(IW x.1).length=2:=fun _=>rfl;have hcmp:CmpLays Tryz.prog 227 #[] (fun x:{s:DN // FV w s}=>IW x.1) 2 (fun x y=>KC (Ih x.1) (Ih y.1)) g 0 dl.toArray.size w:=fun m os dk hdk x y=>by
  have hg':=dJ (fun x:{s:DN // FV w s}=>IW x.1) 2 w g 0 m dk os;have hx:=x.2.grow hg' hrow BG BG;have hy:=y.2.grow hg' hrow BG BG;exact (aoo x.1 y.1 _ hx hy).mono fun e w' h=>⟨h.1,uq h.2⟩
 have hsz:dl.toArray.size*2=sl.length*2:=by simp [hdn]
 have hH:HoldsK (fun x:{s:DN // FV w s}=>IW x.1) 2 w g 0 dl.toArray:=fun j hj=>by
  rw [size_flatK,hsz] at hj;refine ⟨?_,AO.frozen (t:=230) (cs:=cur) hh _⟩;rw [cell_of_row w g _ cur 230 (0,0) hh,QC,hcur j hj,dK _ 2 hkk _ j (by rw [hsz];exact hj)];simp only [id];rw [hfm,List.getElem!_eq_getElem?_getD]
  have:j<(sl.flatMap IW).length:=by rw [hlen];exact hj
  rw [DK this];rfl
 have hcon:=AnyQ.slices_SortFunc Tryz.sortSeg 2 aob agp (fun x:{s:DN // FV w s}=>IW x.1) hkk (fun x=>ahO x.1) (fun x y=>KC (Ih x.1) (Ih y.1)) (adL fun x:{s:DN // FV w s}=>Ih x.1) 227 #[] g 0 cap dl.toArray w eg hcmp hH (AO.lt hh) DC;have hns:dl.toArray.size=sl.length:=by simp [hdn]
 rw [hns] at hcon;refine Calls.mono hcon ?_;rintro e w' ⟨rfl,d',n,os,hp,hs,rfl⟩;obtain ⟨p1,-,p3⟩:=hp;have hd':d'.size=sl.length:=by rw [p1,hns]
 have hperm:d'.toList.Perm dl:=by
  have e1:d'.extract 0 sl.length=d':=by rw [<- hd'];simp
  have e2:dl.toArray.extract 0 sl.length=dl.toArray:=by rw [<- hns];simp
  rw [e1,e2] at p3;simpa using p3
 have hg':=dJ (fun x:{s:DN // FV w s}=>IW x.1) 2 w g 0 n d' os;refine ⟨rfl,d'.toList.map (·.1),by rw [<- hdl];exact hperm.map _,?_,?_,?_,hg'⟩
 ·intro i j hij hj;have hj':j<d'.size:=by simpa using hj
  have:=hs i j (BZ _) hij (by rw [<- hd'];exact hj')
  rw [nG (fun x:{s:DN // FV w s}=>Ih x.1),J3,getElem!_pos d' j hj',getElem!_pos d' i AB] at this;simp only [Gq,Array.getElem_toList];omega
 ·have hl':(d'.toList.map (·.1)).length=sl.length:=by simp [hd']
  unfold Own;rw [hl'];have hfd:(d'.toList.map (·.1)).flatMap IW=d'.toList.flatMap (fun x=>IW x.1):=by rw [P9]
  have hln:((d'.toList.map (·.1)).flatMap IW).length=sl.length*2:=by rw [flat_length IW 2 aBH,hl']
  refine ⟨hln,.inr ⟨g,cap,putCells id 0 (flatK (fun x:{s:DN // FV w s}=>IW x.1) 2 d') cur,rfl,hg,?_,hnc,hcm,tH,?_⟩⟩
  ·have hgl:g<w.heap.size:=AO.lt hh;rw [nD,Array.getElem?_append_left (by simpa using hgl),Array.getElem?_modify,AZ rfl,hh];rfl
  ·apply lK;intro j;rw [List.getElem?_take];by_cases hj:j<sl.length*2
   ·rw [AZ hj,hfd];have hjc:j<cur.size:=by rw [hcs];have:=lM 2 hnc;omega
    have hjd:j<d'.size*2:=by rw [hd'];exact hj
    have e1:(putCells id 0 (flatK (fun x:{s:DN // FV w s}=>IW x.1) 2 d') cur).toList[j]? = some (flatK (fun x:{s:DN // FV w s}=>IW x.1) 2 d')[j]! := by
     simp [putCells,hjc,hjd]
    rw [e1,dK _ 2 hkk _ j hjd,List.getElem!_eq_getElem?_getD]
    have:j<(d'.toList.flatMap fun x=>IW x.1).length:=by rw [<- hfd,hln];exact hj
    rw [DK this];rfl
   · rw [AX hj,Y0 (by rw [hln];omega)]
 ·intro s hs;obtain ⟨x,-,rfl⟩:=EM.1 hs;exact x.2.grow hg' hrow BG BG
