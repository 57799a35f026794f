import Derived.Test.YtialfdomhoojiaaGreatQJ06
import Derived.Shelf.SlSortCmp.NoneTotal
import Derived.Test.YtialfdomhoojiaaGreatLaySort
set_option linter.unusedSimpArgs false
set_option linter.unusedVariables false
namespace Go.Proofs.YtialfdomhoojiaaGreat
open Go.RowKit
theorem aoc (a b c d:Pt) (h1:a.x<c.x) (h2:a.x<d.x) (h3:b.x<c.x) (h4:b.x<d.x):KL a b c d=0:=by
 rw [VU];have hac:CP a c=true:=(MN a c).2 (.inl h1);have had:CP a d=true:=(MN a d).2 (.inl h2);have hbc:CP b c=true:=(MN b c).2 (.inl h3);have hbd:CP b d=true:=(MN b d).2 (.inl h4);have hca:=PX hac;have hda:=PX had;have hcb:=PX hbc;have hdb:=PX hbd;have n1:c≠a:=fun e=>by subst e;omega
 have n2:d≠a:=fun e=>by subst e;omega
 have n3:c≠b:=fun e=>by subst e;omega
 have n4:d≠b:=fun e=>by subst e;omega
 obtain ⟨e1,e2,-⟩ | ⟨e1,e2,-⟩:=Yt c d<;>obtain ⟨f1,f2,-⟩ | ⟨f1,f2,-⟩:=Yt a b <;>
  rw [e1,e2,f1,f2]<;>simp [hi,lo,hac,had,hbc,hbd,hca,hda,hcb,hdb,n1,n2,n3,n4]
theorem aod {n s p q M:Int} (h0:0<=s) (h1:s<=n) (hp:p<=M) (hq:q<=M):n*p+s*(q-p)<=n*M:=by
 have e:n*M-(n*p+s*(q-p))=(n-s)*(M-p)+s*(M-q):=by grind
 have:=KR (show 0<=n-s by omega) (show 0<=M-p by omega)
 have:=KR h0 (show 0<=M-q by omega)
 omega
theorem aoe {n s p q M:Int} (h0:0<=s) (h1:s<=n) (hp:M<=p) (hq:M<=q):n*M<=n*p+s*(q-p):=by
 have e:(n*p+s*(q-p))-n*M=(n-s)*(p-M)+s*(q-M):=by grind
 have:=KR (show 0<=n-s by omega) (show 0<=p-M by omega)
 have:=KR h0 (show 0<=q-M by omega)
 omega
theorem ahM {n s u p q r t:Int} (hn:0<n) (h0:0<=s) (h1:s<=n) (h2:0<=u) (h3:u<=n) (hpr:max p q<min r t)
  (e:n*p+s*(q-p)=n*r+u*(t-r)):False:=by
 have l1:=aod (p:=p) (q:=q) (M:=max p q) h0 h1 AB AB;have l2:=aoe (p:=r) (q:=t) (M:=min r t) h2 h3 AB AB
 have:n*max p q<n*min r t:=Int.mul_lt_mul_of_pos_left hpr hn
 omega
theorem aof (a b c d:Pt) (h:max a.x b.x<min c.x d.x):JX a b c d=0:=by
 rw [vF];unfold Fq;split
 case isFalse => rfl
 unfold ND;have id1:BM a b c d*a.x+BM a c c d*(b.x-a.x)=BM a b c d*c.x+BM a c a b*(d.x-c.x):=by unfold BM;grind
 split
 · rfl
 split
 ·split
  · exact aoc a b c d AB AB AB AB
  · rfl
 split
 ·rename_i hn;split
  ·rename_i hh;obtain ⟨q1,q2,q3,q4⟩:=hh;exact (ahM (n:=-BM a b c d) (s:=-BM a c c d) (u:=-BM a c a b) AB q1 q2 q3 q4 h (by
    rw [Oh,Oh,Oh,Oh];omega)).elim
  · rfl
 ·rename_i h0 hn;split
  ·rename_i hh;obtain ⟨q1,q2,q3,q4⟩:=hh;exact (ahM (n:=BM a b c d) (s:=BM a c c d) (u:=BM a c a b) AB q1 q2 q3 q4 h id1).elim
  · rfl
theorem aog (a b c d:Pt):Fq a b c d=Fq c d a b:=by
 have hn:EN [a,b,c,d]=EN [c,d,a,b]:=by
  rw [MH];simp [EN];constructor<;>(rintro ⟨h1,h2,h3,h4⟩;exact ⟨h3,h4,h1,h2⟩)
 unfold Fq;rw [hn];split
 case isFalse => rfl
 unfold ND;have e0:BM c d a b=- BM a b c d:=by unfold BM;grind
 have e1:BM c a a b=BM a c a b*(-1):=by unfold BM;grind
 have e2:BM c a c d=BM a c c d*(-1):=by unfold BM;grind
 have e3:BM a b c d=- BM c d a b:=by rw [e0];omega
 by_cases h1:a=b/\c=d/\¬ a=c
 · rw [AZ h1,AZ ⟨h1.2.1,h1.1,fun e=>h1.2.2 e.symm⟩]
 rw [AX h1,AX (show ¬ (c=d/\a=b/\¬ c=a) from fun e=>h1 ⟨e.2.1,e.1,fun e'=>e.2.2 e'.symm⟩)];rw [e0,e1,e2];by_cases hz:BM a b c d=0
 ·rw [AZ hz,AZ (show-BM a b c d=0 by omega),Xf a b c d];by_cases hh:BM a b a c=0/\BM a b a d=0/\BM c d c a=0/\BM c d c b=0
  · rw [AZ hh,AZ (show BM c d c a=0/\BM c d c b=0/\BM a b a c=0/\BM a b a d=0 from ⟨hh.2.2.1,hh.2.2.2,hh.1,hh.2.1⟩)]
  · rw [AX hh,AX (show ¬ (BM c d c a=0/\BM c d c b=0/\BM a b a c=0/\BM a b a d=0) from fun e=>hh ⟨e.2.2.1,e.2.2.2,e.1,e.2.1⟩)]
 ·rw [AX hz,AX (show ¬ - BM a b c d=0 by omega)];by_cases hneg:BM a b c d<0
  ·rw [AZ hneg,AX (show ¬ - BM a b c d<0 by omega)];congr 1;simp only [eq_iff_iff];omega
  ·rw [AX hneg,AZ (show-BM a b c d<0 by omega)];congr 1;simp only [eq_iff_iff];omega
theorem aoh (a b c d:Pt):JX a b c d=JX c d a b:=by rw [vF,vF,aog]
def G8.fst (s:G8):Pt:=s.path.getD s.k AY
def G8.snd (s:G8):Pt:=s.path.getD (s.k+1) AY
def G8.west (s:G8):Int:=min s.fst.x s.snd.x
def G8.east (s:G8):Int:=max s.fst.x s.snd.x
def G8.sg (s:G8):Sg:=⟨s.arc,s.k,s.path.length-1,s.fst,s.snd⟩
def oP (a b:G8):Bool:=decide (a.k+1=b.k) || ((a.arc.fr == a.arc.dst) && decide (a.k=0) && decide ((b.k:Int)=(b.path.length:Int)-2))
def aBQ (m:Int) (a b:G8):Bool:=if oP a b then m == 1 else m == 0
def aBR (f:Int->Pt) (s t:G8) (id:Int):Bool:=(id == t.arc.fr || id == t.arc.dst) && Ea s.fst s.snd (f id) && Ea t.fst t.snd (f id)
def WX (f:Int->Pt) (s t:G8):Bool :=
 if s.arc.id=t.arc.id then (if t.k<s.k then aBQ (JX s.fst s.snd t.fst t.snd) t s else aBQ (JX s.fst s.snd t.fst t.snd) s t)
 else if JX s.fst s.snd t.fst t.snd=1 then aBR f s t s.arc.fr || aBR f s t s.arc.dst
 else JX s.fst s.snd t.fst t.snd == 0
theorem ahN (f:Int->Pt) (s t:DX):Ol f s t=WX f s.abs t.abs:=rfl
def abp (s:G8) (n:Nd):Bool:=!(Ea s.fst s.snd n.pt && !(((s.k:Int) == 0) && (s.arc.fr == n.id)) && !(((s.k:Int) == (s.path.length:Int)-2) && (s.arc.dst == n.id)))
def Ld (s:DX) (n:Nd):Bool:=abp s.abs n
def ahO (f:Int->Pt) (nl:List Nd) (sl:List DX):Prop :=
 (∀ i j (_:i<j) (hj:j<sl.length),Il sl[j]<=PI (sl[i]'(by omega))->Ol f (sl[i]'(by omega)) sl[j]=true)/\∀ s∈sl,∀ n∈nl,Ld s n=true
theorem uz (l:List Int) (h:OH l=true):l.Pairwise (· < ·):=by
 have h1:∀ j (hj:j+1<l.length),l[j]<l[j+1]:=fun j hj=>by
  unfold OH at h;rw [KU] at h;have:=h j (Et.2 AB)
  simpa [List.getD,Dh hj,Dh (show j<l.length by omega)] using this
 have h2:∀ d i (hi:i+d+1<l.length),l[i]'(by omega)<l[i+d+1]:=by
  intro d
  induction d with
  | zero=>intro i hi;exact h1 i hi
  | succ d ih=>intro i hi;have:=ih i AB;have:=h1 (i+d+1) AB;simp only [Nat.add_assoc] at *;omega
 rw [Fa];intro i j hi hj hij;have:=h2 (j-i-1) i AB
 simp only [show i+(j-i-1)+1=j by omega] at this;exact this
theorem aBS {α:Type} (l:List α) (f:α->Bool) (g:α->α->Bool):dI l f g=true↔(∀ x∈l,f x=true)/\l.Pairwise (fun s t=>g s t=true):=by
 constructor
 ·intro h;constructor
  ·intro x hx;obtain ⟨i,hi,rfl⟩:=EF.1 hx
   cases hf:f l[i]
   · rw [ah5 l f g i hi hf] at h;cases h
   · rfl
  ·rw [Fa];intro k i hk hi hki
   cases hg:g l[k] l[i]
   · rw [ah6 l f g i k hki hi hg] at h;cases h
   · rfl
 ·rintro ⟨h1,h2⟩;rw [Fa] at h2;exact ah7 l f g (fun i hi=>h1 _ (BO hi)) (fun i k hk hi=>h2 k i AB hi hk)
structure Sound (p:Pl):Prop where
 nodes:(p.nodes.map (·.id)).Pairwise (· < ·)
 AP:(p.AP.map (·.id)).Pairwise (· < ·)
 ends:∀ a∈p.AP,JY p a=true
theorem aBT {α:Type} (f:α->Int) (l:List α) (h:(l.map f).Pairwise (· < ·)) (a:α) (ha:a∈l):l.find? (fun x=>f x == f a)=some a:=by
 induction l with
 | nil=>cases ha
 | cons b l ih =>
  rw [FM,JL] at h;rcases EW.1 ha with rfl | ha'
  · simp
  ·have:=h.1 (f a) (Gh ha')
   rw [List.find?_cons_of_neg DT];exact ih h.2 ha'
theorem Sound.path {p:Pl} (hp:Sound p) {a:Ar} (ha:a∈p.AP):pathOf p a.id=some (AV p a):=by
 unfold pathOf findAr;rw [aBT (·.id) p.AP hp.AP a ha];simp [hp.ends a ha]
theorem Sound.oQ {p:Pl} (hp:Sound p) {a:Ar} (ha:a∈p.AP):FT p a=(List.range ((AV p a).length-1)).map fun k=>⟨a,AV p a,k⟩:=by
 unfold FT;rw [hp.path ha];rfl
theorem Sound.mem {p:Pl} (hp:Sound p) {x:G8} (hx:x∈p.AP.flatMap (FT p)):x.arc∈p.AP/\x.path=AV p x.arc/\x.k+1<x.path.length:=by
 obtain ⟨a,ha,hx⟩:=Gf.1 hx;rw [hp.oQ ha] at hx;obtain ⟨k,hk,rfl⟩:=ED.1 hx;have:=Et.1 hk
 exact ⟨ha,rfl,by show k+1<(AV p a).length;omega⟩
theorem Sound.QN {p:Pl} (hp:Sound p) {x:Nd} (hx:x∈p.nodes):nodeAt p x.id=x.pt:=by
 unfold nodeAt J3;rw [aBT (·.id) p.nodes hp.nodes x hx];rfl
theorem Sound.aBU {p:Pl} (hp:Sound p) {a:Ar} (ha:a∈p.AP):(∃ x∈p.nodes,x.id=a.fr)/\∃ x∈p.nodes,x.id=a.dst:=by
 have h:=hp.ends a ha;unfold JY at h;rw [Ei] at h;obtain ⟨h1,h2⟩:=h;obtain ⟨x,hx⟩:=Option.isSome_iff_exists.1 h1;obtain ⟨y,hy⟩:=Option.isSome_iff_exists.1 h2;exact ⟨⟨x,VO hx,by simpa using List.find?_some hx⟩,⟨y,VO hy,by simpa using List.find?_some hy⟩⟩
theorem Sound.Ri {p:Pl} (hp:Sound p):UK p=(p.AP.flatMap (FT p)).map G8.sg:=by
 unfold UK;rw [aAL];have:∀ l:List Ar,(∀ a∈l,a∈p.AP)->l.flatMap (fun a=>Jv a (AV p a))=l.flatMap (fun a=>(FT p a).map G8.sg):=by
  intro l
  induction l with
  | nil=>intro _;rfl
  | cons a l ih =>
   intro h;rw [KI,KI,ih (fun b hb=>h b (by simp [hb])),hp.oQ (h a Ak),IV];rfl
 exact this _ fun a ha=>ha
theorem Sound.pw {p:Pl} (hp:Sound p):(p.AP.flatMap (FT p)).Pairwise (fun x y=>x.arc.id=y.arc.id->x.arc=y.arc/\x.k<y.k):=by
 rw [sO];constructor
 ·intro a ha;rw [hp.oQ ha,I5];exact List.pairwise_lt_range.imp fun h _=>⟨rfl,h⟩
 ·have h:=hp.AP;rw [I5] at h;refine (List.Pairwise.and_mem.1 h).imp ?_;rintro a b ⟨ha,hb,hlt⟩ x hx y hy he;rw [hp.oQ ha] at hx;rw [hp.oQ hb] at hy;obtain ⟨k,-,rfl⟩:=ED.1 hx;obtain ⟨m,-,rfl⟩:=ED.1 hy;have he':a.id=b.id:=he;omega
theorem Sound.aoi {p:Pl} (hp:Sound p) {x:G8} (hx:x∈p.AP.flatMap (FT p)) (h:x.k=0):x.fst=nodeAt p x.arc.fr:=by
 obtain ⟨-,h2,-⟩:=hp.mem hx;unfold G8.fst;rw [h2,h];rfl
theorem Sound.aoj {p:Pl} (hp:Sound p) {x:G8} (hx:x∈p.AP.flatMap (FT p)) (h:(x.k:Int)=(x.path.length:Int)-2):x.snd=nodeAt p x.arc.dst:=by
 obtain ⟨-,h2,h3⟩:=hp.mem hx;unfold G8.snd
 have:x.k+1=x.arc.via.length+1:=by rw [h2,Ey] at h;omega
 rw [h2,this];unfold AV;rw [aaw,Fj,List.getElem?_append_right (Dc _)];simp
theorem Sound.chain {p:Pl} (hp:Sound p) {x y:G8} (hx:x∈p.AP.flatMap (FT p)) (hy:y∈p.AP.flatMap (FT p)) (ha:x.arc=y.arc) (hc:oP x y=true):x.west<=y.east/\y.west<=x.east:=by
 have aok:x.path=y.path:=by rw [(hp.mem hx).2.1,(hp.mem hy).2.1,ha]
 unfold oP at hc;rw [KD] at hc;unfold G8.west G8.east;rcases hc with hc | hc
 ·have hk:x.k+1=y.k:=by simpa using hc
  have e:x.snd=y.fst:=by unfold G8.snd G8.fst;rw [aok,hk]
  rw [e];omega
 ·simp only [Ei,EO,beq_iff_eq] at hc;obtain ⟨⟨h1,h2⟩,h3⟩:=hc;have e:x.fst=y.snd:=by rw [hp.aoi hx h2,hp.aoj hy h3,h1,ha]
  rw [e];omega
theorem Sound.aol {p:Pl} (hp:Sound p) (f:Int->Pt) {x y:G8} (hx:x∈p.AP.flatMap (FT p)) (hy:y∈p.AP.flatMap (FT p)) (hd:x.arc.id=y.arc.id->x.arc=y.arc) (h:x.east<y.west):WX f x y=true:=by
 have hm:JX x.fst x.snd y.fst y.snd=0:=aof _ _ _ _ h;have hle:y.west<=y.east:=by unfold G8.west G8.east;omega
 have hle':x.west<=x.east:=by unfold G8.west G8.east;omega
 unfold WX;rw [hm];by_cases hid:x.arc.id=y.arc.id
 ·have ha:=hd hid;rw [AZ hid];have n1:oP x y=false:=by
   rw [<- JK];intro hc;have:=hp.chain hx hy ha hc;omega
  have n2:oP y x=false:=by
   rw [<- JK];intro hc;have:=hp.chain hy hx ha.symm hc;omega
  simp [aBQ,n1,n2]
 · simp [hid]
theorem Sound.sym {p:Pl} {x y:G8} (hd:x.arc.id=y.arc.id->x.k≠y.k):WX (nodeAt p) x y=WX (nodeAt p) y x:=by
 unfold WX;rw [aoh y.fst y.snd x.fst x.snd];by_cases hid:x.arc.id=y.arc.id
 ·have hk:=hd hid;rw [AZ hid,AZ hid.symm];by_cases hlt:y.k<x.k
  · rw [AZ hlt,AX (show ¬ x.k<y.k by omega)]
  · rw [AX hlt,AZ (show x.k<y.k by omega)]
 ·rw [AX hid,AX (show ¬ y.arc.id=x.arc.id from fun e=>hid e.symm)];split
  ·rw [MH];simp only [aBR,KD,Ei,beq_iff_eq];constructor
   · rintro (⟨⟨h1,h2⟩,h3⟩ | ⟨⟨h1,h2⟩,h3⟩)<;>rcases h1 with h1 | h1<;>rw [h1] at h2 h3<;>simp [h1,h2,h3]
   · rintro (⟨⟨h1,h2⟩,h3⟩ | ⟨⟨h1,h2⟩,h3⟩)<;>rcases h1 with h1 | h1<;>rw [h1] at h2 h3<;>simp [h1,h2,h3]
  · rfl
theorem Sound.pair {p:Pl} (hp:Sound p) {x y:G8} (hx:x∈p.AP.flatMap (FT p)) (hy:y∈p.AP.flatMap (FT p)) (hd:x.arc.id=y.arc.id->x.arc=y.arc/\x.k<y.k):NG p x.sg y.sg=WX (nodeAt p) x y:=by
 obtain ⟨mx,px,kx⟩:=hp.mem hx;obtain ⟨my,py,ky⟩:=hp.mem hy;unfold NG WX
 show (if x.arc.id=y.arc.id then _ else _)=_
 by_cases hid:x.arc.id=y.arc.id
 ·obtain ⟨ha,hk⟩:=hd hid;rw [AZ hid,AZ hid,AX (show ¬ y.k<x.k by omega)];unfold SE aBQ oP;rw [vF]
  show (if y.k=x.k+1\/(x.k=0/\y.k+1=y.path.length-1/\x.arc.fr=x.arc.dst) then Fq x.fst x.snd y.fst y.snd == 1 else Fq x.fst x.snd y.fst y.snd == 0)=_
  have:(y.k=x.k+1\/(x.k=0/\y.k+1=y.path.length-1/\x.arc.fr=x.arc.dst))↔(decide (x.k+1=y.k) || ((x.arc.fr == x.arc.dst) && decide (x.k=0) && decide ((y.k:Int)=(y.path.length:Int)-2)))=true:=by
   simp only [KD,Ei,EO,beq_iff_eq];constructor
   ·rintro (h | ⟨h1,h2,h3⟩)
    · left;omega
    · right;exact ⟨⟨h3,h1⟩,AB⟩
   ·rintro (h | ⟨⟨h1,h2⟩,h3⟩)
    · left;omega
    · right;exact ⟨h2,AB,h1⟩
  simp only [this]
 ·rw [AX hid,AX hid];unfold PG;rw [vF]
  show (if Fq x.fst x.snd y.fst y.snd=1 then _ else Fq x.fst x.snd y.fst y.snd == 0)=_
  split
  ·rw [MH,OC];simp only [PE,VW,aBR,KD,Ei,beq_iff_eq,G8.sg,<- acC];constructor
   ·rintro ⟨n,hn,⟨⟨⟨h1,h2⟩,h3⟩,h4⟩⟩;have hpt:=hp.QN hn;rw [<- hpt] at h3 h4;rcases h1 with h1 | h1
    ·left;rw [h1];exact ⟨⟨by rcases h2 with h2 | h2<;>simp [h2],h3⟩,h4⟩
    ·right;rw [h1];exact ⟨⟨by rcases h2 with h2 | h2<;>simp [h2],h3⟩,h4⟩
   ·obtain ⟨⟨n1,hn1,e1⟩,⟨n2,hn2,e2⟩⟩:=hp.aBU mx;rintro (⟨⟨h1,h2⟩,h3⟩ | ⟨⟨h1,h2⟩,h3⟩)
    ·refine ⟨n1,hn1,⟨⟨⟨.inl e1.symm,by rcases h1 with h1 | h1<;>simp [e1,h1]⟩,?_⟩,?_⟩⟩
     · rw [<- hp.QN hn1,e1];exact h2
     · rw [<- hp.QN hn1,e1];exact h3
    ·refine ⟨n2,hn2,⟨⟨⟨.inr e2.symm,by rcases h1 with h1 | h1<;>simp [e2,h1]⟩,?_⟩,?_⟩⟩
     · rw [<- hp.QN hn2,e2];exact h2
     · rw [<- hp.QN hn2,e2];exact h3
  · rfl
theorem Sound.free {p:Pl} (hp:Sound p) {x:G8} (hx:x∈p.AP.flatMap (FT p)) (n:Nd):abp x n=Qz x.sg n:=by
 obtain ⟨mx,px,kx⟩:=hp.mem hx;unfold abp Qz Qy;rw [acC]
 show _=((((x.k:Int) == 0) && (x.arc.fr == n.id)) || (((x.k:Int) == ((x.path.length-1:Nat):Int)-1) && (x.arc.dst == n.id)) || !LZ x.fst x.snd n.pt)
 rw [show ((x.path.length-1:Nat):Int)-1=(x.path.length:Int)-2 by omega]
 cases LZ x.fst x.snd n.pt<;>cases (((x.k:Int) == 0) && (x.arc.fr == n.id))<;>cases (((x.k:Int) == (x.path.length:Int)-2) && (x.arc.dst == n.id))<;>rfl
theorem Sound.ahP {p:Pl} (hp:Sound p):p.AP.all (Ko p)=true↔∀ x∈p.AP.flatMap (FT p),V3 x.sg=true:=by
 rw [KU];constructor
 ·intro h x hx;obtain ⟨mx,px,kx⟩:=hp.mem hx;have ha:=h _ mx;unfold Ko at ha;rw [hp.path mx] at ha;simp only [Ei,Qk,aai,beq_eq_false_iff_ne,Iy] at ha;obtain ⟨h1,h2⟩:=ha;rw [<- px] at h1 h2;unfold V3;simp only [Ei,Qk,Iy,KD,bne_iff_ne,EO]
  show ¬ x.fst=x.snd/\(x.arc.fr≠x.arc.dst\/3<=((x.path.length-1:Nat):Int))
  constructor
  ·intro e;unfold YZ at h2;rw [KU] at h2;have:=h2 x.k (Et.2 AB)
   simp only [Qk,Iy] at this;exact this e
  ·rcases h1 with h1 | h1
   · exact .inl h1
   · right;omega
 ·intro h a ha;unfold Ko;rw [hp.path ha];have hmem:∀ k,k+1<(AV p a).length->(⟨a,AV p a,k⟩:G8)∈p.AP.flatMap (FT p):=fun k hk=>by
   refine Gf.2 ⟨a,ha,?_⟩;rw [hp.oQ ha];exact ED.2 ⟨k,Et.2 AB,rfl⟩
  have hs:∀ k,k+1<(AV p a).length->¬ (AV p a).getD k AY=(AV p a).getD (k+1) AY/\(a.fr≠a.dst\/3<=(((AV p a).length-1:Nat):Int)):=fun k hk=>by
   have:=h _ (hmem k hk)
   unfold V3 at this;simp only [Ei,Qk,Iy,KD,bne_iff_ne,EO] at this;exact this
  have hl:=Ey p a;simp only [Ei,Qk,aai,beq_eq_false_iff_ne,Iy];constructor
  ·rcases (hs 0 AB).2 with h1 | h1
   · exact .inl h1
   · right;omega
  ·unfold YZ;rw [KU];intro k hk;have hk:=Et.1 hk;simpa using (hs k AB).1
theorem Sound.aom {p:Pl} (hp:Sound p) (hok:p.AP.all (Ko p)=true) (sl:List DX) (hs:(sl.map DX.abs).Perm (p.AP.flatMap (FT p))):ahO (nodeAt p) p.nodes sl↔MP p=true:=by
 generalize hL:p.AP.flatMap (FT p)=L at *;have aX:∀ {x},x∈L->x∈p.AP.flatMap (FT p):=fun h=>by rw [hL];exact h
 have hpw:L.Pairwise (fun x y=>x.arc.id=y.arc.id->x.arc=y.arc/\x.k<y.k):=by rw [<- hL];exact hp.pw
 have hdist:L.Pairwise (fun x y=>x.arc.id=y.arc.id->x.arc=y.arc/\x.k≠y.k):=hpw.imp fun h e=>⟨(h e).1,by have:=(h e).2;omega⟩;have agY:(sl.map DX.abs).Pairwise (fun x y=>x.arc.id=y.arc.id->x.arc=y.arc/\x.k≠y.k) :=
  (hs.pairwise_iff (fun h e=>⟨(h e.symm).1.symm,fun e'=>(h e.symm).2 e'.symm⟩)).2 hdist
 have agZ:∀ {x},x∈sl.map DX.abs->x∈p.AP.flatMap (FT p):=fun h=>aX (hs.mem_iff.1 h)
 let R:G8->G8->Prop:=fun x y=>WX (nodeAt p) x y=true/\WX (nodeAt p) y x=true
 have h1:(sl.map DX.abs).Pairwise R↔L.Pairwise R:=hs.pairwise_iff (fun h=>⟨h.2,h.1⟩);have h2:L.Pairwise R↔(L.map G8.sg).Pairwise (fun s t=>NG p s t=true):=by
  rw [I5,Fa,Fa];rw [Fa] at hpw;constructor
  ·intro h i j hi hj hij;rw [hp.pair (aX (BO hi)) (aX (BO hj)) (hpw i j hi hj hij)];exact (h i j hi hj hij).1
  ·intro h i j hi hj hij;have hh:=h i j hi hj hij;have ho:=hpw i j hi hj hij;rw [hp.pair (aX (BO hi)) (aX (BO hj)) ho] at hh;refine ⟨hh,?_⟩;rw [<- Sound.sym (p:=p) (fun e=>by have:=(ho e).2;omega)];exact hh
 have h3:(∀ i j (_:i<j) (hj:j<sl.length),Il sl[j]<=PI (sl[i]'(by omega))->Ol (nodeAt p) (sl[i]'(by omega)) sl[j]=true)↔(sl.map DX.abs).Pairwise R:=by
  rw [Fa];rw [Fa] at agY;constructor
  ·intro h i j hi hj hij;have hj':j<sl.length:=by simpa using hj
   have mi:=agZ (BO hi);have mj:=agZ (BO hj);have hd:=agY i j hi hj hij;have hc:WX (nodeAt p) ((sl.map DX.abs)[i]) ((sl.map DX.abs)[j])=true:=by
    by_cases hw:Il sl[j]<=PI (sl[i]'(by omega))
    ·have:=h i j hij hj' hw
     rw [ahN] at this;simpa using this
    ·refine hp.aol (nodeAt p) mi mj (fun e=>(hd e).1) ?_;have hlt:PI (sl[i]'(by omega))<Il sl[j]:=by omega
     rw [Gp,Gp];exact hlt
   refine ⟨hc,?_⟩;rw [<- Sound.sym (p:=p) (fun e=>(hd e).2)];exact hc
  ·intro h i j hij hj _;have:=(h i j DT (by simpa using hj) hij).1
   rw [ahN];simpa using this
 have h4:(∀ s∈sl,∀ n∈p.nodes,Ld s n=true)↔∀ x∈L,p.nodes.all (Qz x.sg)=true:=by
  constructor
  ·intro h x hx;rw [KU];intro n hn;obtain ⟨s,hs',rfl⟩:=ED.1 (hs.mem_iff.2 hx);rw [<- hp.free (aX hx)];exact h s hs' n hn
  ·intro h s hs' n hn;have hx:=hs.mem_iff.1 (Gh (f:=DX.abs) hs');have:=KU.1 (h _ hx) n hn
   unfold Ld;rw [hp.free (aX hx)];exact this
 unfold ahO MP;rw [hp.Ri,hL,aBS,h3,h1,h2,h4,and_comm];refine and_congr_left fun _=>?_;constructor
 ·intro h s hs';obtain ⟨x,hx,rfl⟩:=ED.1 hs';unfold QK;rw [h x hx,hp.ahP.1 hok x (aX hx)];rfl
 ·intro h x hx;have:=h _ (Gh (f:=G8.sg) hx)
  unfold QK at this;rw [Ei] at this;exact this.1
theorem Sound.aon {p:Pl} (hp:Sound p) (hok:p.AP.all (Ko p)=false):MP p=false:=by
 rw [<- JK];intro h;unfold MP at h;rw [aBS,hp.Ri] at h
 have:p.AP.all (Ko p)=true:=hp.ahP.2 fun x hx=>by
  have:=h.1 _ (Gh (f:=G8.sg) hx)
  unfold QK at this;rw [Ei] at this;exact this.2
 rw [hok] at this
 cases this
def ig (l:List Nd):Int->Pt:=l.foldl (fun f n=>fun i=>if i=n.id then n.pt else f i) (fun _=>z0)
theorem aoo (l:List Nd) (k:Nat) (hk:k<l.length):ig (l.take (k+1))=fun i=>if i=l[k].id then l[k].pt else ig (l.take k) i:=by
 unfold ig;rw [F7 hk,Oi];rfl
theorem aop (p:Pl) (h:(p.nodes.map (·.id)).Pairwise (· < ·)):ig p.nodes=nodeAt p:=by
 unfold nodeAt J3;generalize p.nodes=l at *;have gen:∀ (l:List Nd) (f:Int->Pt),(l.map (·.id)).Pairwise (· < ·)->∀ i,(l.foldl (fun f n=>fun i=>if i=n.id then n.pt else f i) f) i=match l.find? (fun n=>n.id == i) with | some n=>n.pt | none=>f i:=by
  intro l
  induction l with
  | nil=>intro f _ i;rfl
  | cons a l ih =>
   intro f h i;rw [FM,JL] at h;rw [UD,ih _ h.2];by_cases e:a.id=i
   ·rw [List.find?_cons_of_pos (by simp [e])]
    have:l.find? (fun n=>n.id == i)=none:=by
     rw [List.find?_eq_none];intro x hx;have:=h.1 x.id (Gh hx)
     simp;omega
    rw [this];simp [e]
   ·rw [List.find?_cons_of_neg (by simp [e])];split
    · rfl
    · rw [AX (fun e'=>e e'.symm)]
 funext i
 have:=gen l (fun _=>z0) h i
 unfold ig;rw [this]
 cases l.find? (fun n=>n.id == i)<;>rfl
open Go.RowKit Go.Sort
theorem vC {w w':World} (h:NY w w'):∃ q os',w'=grow (w.drewN q) os':=by
 obtain ⟨hb,hd⟩:=h;refine ⟨w'.drawn-w.drawn,w'.heap.extract w.heap.size w'.heap.size,?_⟩;have hh:w'.heap=w.heap++w'.heap.extract w.heap.size w'.heap.size:=by
  apply Array.ext
  · have:=hb.size;simp;omega
  ·intro i h1 h2;by_cases hi:i<w.heap.size
   ·rw [Array.getElem_append_left hi];have:=hb.block i hi
    rw [Array.getElem?_eq_getElem h1,Array.getElem?_eq_getElem hi] at this;injection this
   ·rw [Array.getElem_append_right AB,Array.getElem_extract];congr 1;omega
 have h1:=hb.os;have h2:=hb.tape;have h3:=hb.output
 cases w;cases w';simp only [grow,World.drewN,World.mk.injEq] at *;exact ⟨hh,h2,AB,h1,h3⟩
section
variable {α:Type} [Inhabited α] (enc:α->List Value) (k:Nat) (w:World)
theorem oU (blk off m:Nat) (dk:Array α) (os:Array Obj):(sortWorldK enc k w blk off m dk os).heap=w.heap.modify blk (onCells (putCells id off (flatK enc k dk)))++os:=rfl
theorem aY (blk off m:Nat) (dk:Array α) (os:Array Obj):w.grownBy (sortWorldK enc k w blk off m dk os) (some blk):=by
 refine ⟨rfl,rfl,rfl,?_,fun i hi hne=>?_⟩
 · rw [oU];simp
 ·have hne':blk≠i:=fun e=>hne Rt;rw [oU,Array.getElem?_append_left mF,Array.getElem?_modify,AX hne']
end
theorem oV {α:Type} (f:α->Int) (x y:α):ltOf (fun x y=>KN (f x) (f y)) x y=decide (f x<f y):=by
 unfold ltOf KN;by_cases h:f x<f y
 · simp [h]
 · by_cases h':f y<f x<;>simp [h,h']
theorem adB {α:Type} (f:α->Int):SWO (ltOf (fun x y:α=>KN (f x) (f y))) where
 irrefl x:=by rw [oV];simp
 trans x y z h1 h2:=by rw [oV] at *;simp at *;omega
 ntrans x y z h1 h2:=by rw [oV] at *;simp at *;omega
def aoq (w:World) (base:Nat) (v:Value) (sl:List DX) (e:Ending) (w':World):Prop :=
 e=.returned (.tuple #[])/\∃ sl':List DX,sl'.Perm sl/\(∀ i j (hij:i<j) (hj:j<sl'.length),Il (sl'[i]'(by omega))<=Il sl'[j])/\Own w' base 230 2 IZ v sl'/\(∀ s∈sl',FZ w' s)/\w.grownBy w' v.ownBlock
theorem aor:∀ w,(isAgg 230).run Tryz.prog w=.ok true w:=fun _=>by kernel_rfl
theorem aga:∀ w,(Go.sizeOf 230).run Tryz.prog w=.ok 2 w:=fun _=>by kernel_rfl
theorem aZ {α:Type} [Inhabited α] (enc:α->List Value) (k:Nat) (hk:∀ x,(enc x).length=k) (d:Array α) (j:Nat) (hj:j<d.size*k) :
  (flatK enc k d)[j]! = (d.toList.flatMap enc)[j]! := by
 rw [get_flatK _ _ _ _ hj];have hk0:0<k:=by
  rcases YG k with h | h
  · subst h;simp at hj
  · exact h
 have h1:j / k<d.size:=aaj (by rw [rX];exact hj);have h2:j % k<k:=UC _ hk0;have e:=flat_get enc k hk d.toList (j / k) (j % k) (by simpa using h1) h2;rw [rY] at e;rw [List.getElem!_eq_getElem?_getD,List.getElem!_eq_getElem?_getD,e];congr 2;rw [getElem!_pos d _ h1];simp
theorem aos (base:Nat) (v:Value) (sl:List DX) (w:World) (hown:Own w base 230 2 IZ v sl) (hok:∀ s∈sl,FZ w s) (hn:sl.length<=4294967296) :
  Calls Tryz.prog 226 #[v,.func (.func 227) #[] #[]] w (aoq w base v sl):=by
 rcases sl with _ | ⟨s0,rest⟩
 ·have hv:∃ p cap,v=.slice p 0 cap:=by
   rcases hown.2 with ⟨h,_⟩ | ⟨g,cap,cur,h,_⟩
   · exact ⟨_,_,h⟩
   · exact ⟨_,_,h⟩
  obtain ⟨p,cap,rfl⟩:=hv;refine Calls.mono (AnyF.slices_SortFunc_none Tryz.sortSeg p cap (.func (.func 227) #[] #[]) w) ?_;rintro e w' ⟨rfl,rfl⟩;exact ⟨rfl,[],List.Perm.refl _,fun i j _ hj=>by simp at hj,hown,(fun s hs=>by cases hs),World.grownBy.refl _ _⟩
 generalize hsl:s0::rest=sl at *;have hs0:s0∈sl:=by rw [<- hsl];simp
 have hpos:0<sl.length:=by rw [<- hsl];simp
 obtain ⟨hlen,hown2⟩:=hown;rcases hown2 with ⟨_,h0⟩ | ⟨g,cap,cur,rfl,hg,hh,hnc,hcm,hcs,hx⟩
 · omega
 haveI hI:Inhabited {s:DX // FZ w s}:=⟨⟨s0,hok s0 hs0⟩⟩
 have hdl:∃ dl:List {s:DX // FZ w s},dl.map (·.1)=sl:=⟨sl.attachWith (FZ w) hok,Ak⟩;obtain ⟨dl,hdl⟩:=hdl;have hdn:dl.length=sl.length:=by rw [<- hdl];simp
 have hfm:dl.flatMap (fun x=>IZ x.1)=sl.flatMap IZ:=by rw [<- hdl,Og]
 have hrow:∀ g',(some g:Option Nat)=some g'->∃ cs,AO w g' 230 cs:=fun g' e=>by injection e with e;subst e;exact ⟨cur,hh⟩
 have hcur:∀ j,j<sl.length*2->cur[j]? = (sl.flatMap IZ)[j]? := fun j hj=>by
  rw [<- hx,List.getElem?_take,AZ hj];simp
 have eg:∀ args w,(callFunc 227 args).run Tryz.prog w=.ok (.enter 227 args) w:=enters_of Tryz.func227 I8 rfl;have hkk:∀ x:{s:DX // FZ w s},(IZ x.1).length=2:=fun _=>rfl;have hcmp:CmpLays Tryz.prog 227 #[] (fun x:{s:DX // FZ w s}=>IZ x.1) 2 (fun x y=>KN (Il x.1) (Il y.1)) g 0 dl.toArray.size w:=fun m os dk hdk x y=>by
  have hg':=aY (fun x:{s:DX // FZ w s}=>IZ x.1) 2 w g 0 m dk os;have hx:=x.2.grow hg' hrow Aw Aw;have hy:=y.2.grow hg' hrow Aw Aw;exact (apG x.1 y.1 _ hx hy).mono fun e w' h=>⟨h.1,vC h.2⟩
 have hsz:dl.toArray.size*2=sl.length*2:=by simp [hdn]
 have hH:HoldsK (fun x:{s:DX // FZ w s}=>IZ x.1) 2 w g 0 dl.toArray:=fun j hj=>by
  rw [size_flatK,hsz] at hj;refine ⟨?_,AO.frozen (t:=230) (cs:=cur) hh _⟩;rw [cell_of_row w g _ cur 230 (0,0) hh,Qm,hcur j hj,aZ _ 2 hkk _ j (by rw [hsz];exact hj)];simp only [id];rw [hfm,List.getElem!_eq_getElem?_getD]
  have:j<(sl.flatMap IZ).length:=by rw [hlen];exact hj
  rw [Dh this];rfl
 have hcon:=AnyQ.slices_SortFunc Tryz.sortSeg 2 aor aga (fun x:{s:DX // FZ w s}=>IZ x.1) hkk (fun x=>ahC x.1) (fun x y=>KN (Il x.1) (Il y.1)) (adB fun x:{s:DX // FZ w s}=>Il x.1) 227 #[] g 0 cap dl.toArray w eg hcmp hH (AO.lt hh) DT;have hns:dl.toArray.size=sl.length:=by simp [hdn]
 rw [hns] at hcon;refine Calls.mono hcon ?_;rintro e w' ⟨rfl,d',n,os,hp,hs,rfl⟩;obtain ⟨p1,-,p3⟩:=hp;have hd':d'.size=sl.length:=by rw [p1,hns]
 have hperm:d'.toList.Perm dl:=by
  have e1:d'.extract 0 sl.length=d':=by rw [<- hd'];simp
  have e2:dl.toArray.extract 0 sl.length=dl.toArray:=by rw [<- hns];simp
  rw [e1,e2] at p3;simpa using p3
 have hg':=aY (fun x:{s:DX // FZ w s}=>IZ x.1) 2 w g 0 n d' os;refine ⟨rfl,d'.toList.map (·.1),by rw [<- hdl];exact hperm.map _,?_,?_,?_,hg'⟩
 ·intro i j hij hj;have hj':j<d'.size:=by simpa using hj
  have:=hs i j (Bv _) hij (by rw [<- hd'];exact hj')
  rw [oV (fun x:{s:DX // FZ w s}=>Il x.1),Iy,getElem!_pos d' j hj',getElem!_pos d' i AB] at this;simp only [Gp,Array.getElem_toList];omega
 ·have hl':(d'.toList.map (·.1)).length=sl.length:=by simp [hd']
  unfold Own;rw [hl'];have hfd:(d'.toList.map (·.1)).flatMap IZ=d'.toList.flatMap (fun x=>IZ x.1):=by rw [Og]
  have hln:((d'.toList.map (·.1)).flatMap IZ).length=sl.length*2:=by rw [flat_length IZ 2 aBO,hl']
  refine ⟨hln,.inr ⟨g,cap,putCells id 0 (flatK (fun x:{s:DX // FZ w s}=>IZ x.1) 2 d') cur,rfl,hg,?_,hnc,hcm,tH,?_⟩⟩
  ·have hgl:g<w.heap.size:=AO.lt hh;rw [oU,Array.getElem?_append_left (by simpa using hgl),Array.getElem?_modify,AZ rfl,hh];rfl
  ·apply lZ;intro j;rw [List.getElem?_take];by_cases hj:j<sl.length*2
   ·rw [AZ hj,hfd];have hjc:j<cur.size:=by rw [hcs];have:=lq 2 hnc;omega
    have hjd:j<d'.size*2:=by rw [hd'];exact hj
    have e1:(putCells id 0 (flatK (fun x:{s:DX // FZ w s}=>IZ x.1) 2 d') cur).toList[j]? = some (flatK (fun x:{s:DX // FZ w s}=>IZ x.1) 2 d')[j]! := by
     simp [putCells,hjc,hjd]
    rw [e1,aZ _ 2 hkk _ j hjd,List.getElem!_eq_getElem?_getD]
    have:j<(d'.toList.flatMap fun x=>IZ x.1).length:=by rw [<- hfd,hln];exact hj
    rw [Dh this];rfl
   · rw [AX hj,YN (by rw [hln];omega)]
 ·intro s hs;obtain ⟨x,-,rfl⟩:=ED.1 hs;exact x.2.grow hg' hrow Aw Aw
