import Derived.Test.YtngoejdlompfoaaGreatJ05
import Derived.Shelf.SlSortCmp.NoneTotal
import Derived.Test.YtngoejdlompfoaaGreatLaySort
import Derived.Deep.CutBlock
set_option linter.unusedSimpArgs false
set_option linter.unusedVariables false
set_option maxRecDepth 100000
set_option maxHeartbeats 16000000
namespace Go.Proofs.YtngoejdlompfoaaGreat
open Go.RowKit Tryz
theorem apR(a b c d:Pt)(h1:a.x<c.x)(h2:a.x<d.x)(h3:b.x<c.x)(h4:b.x<d.x):Lc a b c d=0:=by
 rw[Xl];have j:CU a c=true:=(Np a c).2<|.inl h1;have o:CU a d=true:=(Np a d).2<|.inl h2;have s:CU b c=true:=(Np b c).2<|.inl h3;have z:CU b d=true:=(Np b d).2<|.inl h4;have C:=Qs j;have K:=Qs o;have M:=Qs s;have T:=Qs z;have n1:c≠a:=λe=>by subst e;omega
 have n2:d≠a:=λe=>by subst e;omega
 have n3:c≠b:=λe=>by subst e;omega
 have n4:d≠b:=λe=>by subst e;omega
 obtain⟨U,e2,-⟩|⟨U,e2,-⟩:=dP c d<;>obtain⟨f1,f2,-⟩|⟨f1,f2,-⟩:=dP a b<;>rw[U,e2,f1,f2]<;>simp[hi,lo,j,o,s,z,C,K,M,T,n1,n2,n3,n4]
theorem apS{n s p q M:Int}(h0:0<=s)(h1:s<=n)(c:p<=M)(j:q<=M):n*p+s*(q-p)<=n*M:=by
 have e:n*M-(n*p+s*(q-p))=(n-s)*(M-p)+s*(M-q):=by grind
 have:=LX (show 0<=n-s by omega) (show 0<=M-p by omega);have:=LX h0 (show 0<=M-q by omega);omega
theorem apT{n s p q M:Int}(h0:0<=s)(h1:s<=n)(c:M<=p)(j:M<=q):n*M<=n*p+s*(q-p):=by
 have e:n*p+s*(q-p)-n*M=(n-s)*(p-M)+s*(q-M):=by grind
 have:=LX (show 0<=n-s by omega) (show 0<=p-M by omega);have:=LX h0 (show 0<=q-M by omega);omega
theorem afg{n s u p q r t:Int}(hn:0<n)(h0:0<=s)(h1:s<=n)(h2:0<=u)(h3:u<=n)(c:max p q<min r t)(e:n*p+s*(q-p)=n*r+u*(t-r)):False:=by have j:=apS (p:=p) (q:=q) (M:=max p q) h0 h1 I I;have l2:=apT (p:=r) (q:=t) (M:=min r t) h2 h3 I I;have:n*max p q<n*min r t:=Int.mul_lt_mul_of_pos_left c hn;omega
theorem apU(a b c d:Pt)(h:max a.x b.x<min c.x d.x):KA a b c d=0:=by
 rw[yP];unfold GU;split;case isFalse=>rfl
 unfold OT;have j:BQ a b c d*a.x+BQ a c c d*(b.x-a.x)=BQ a b c d*c.x+BQ a c a b*(d.x-c.x):=by unfold BQ;grind
 split;.rfl
 split
 .split;.exact apR a b c d I I I I
  rfl
 split
 .rename_i hn;split;.rename_i o;obtain⟨z,C,K,M⟩:=o;exact(afg (n:=-BQ a b c d) (s:=-BQ a c c d) (u:=-BQ a c a b) I z C K M h<|by rw[PY,PY,PY,PY];omega).elim
  rfl
 rename_i h0 hn;split;.rename_i o;obtain⟨z,C,K,M⟩:=o;exact(afg (n:=BQ a b c d) (s:=BQ a c c d) (u:=BQ a c a b) I z C K M h j).elim
 rfl
theorem afh(a b c d:Pt):GU a b c d=GU c d a b:=by
 have hn:ES [a,b,c,d]=ES [c,d,a,b]:=by rw[KQ];simp[ES];constructor<;>(rintro⟨h1,h2,h3,o⟩;exact⟨h3,o,h1,h2⟩)
 unfold GU;rw[hn];split;case isFalse=>rfl
 unfold OT;have j:BQ c d a b=-BQ a b c d:=by unfold BQ;grind
 have s:BQ c a a b=BQ a c a b*-1:=by unfold BQ;grind
 have z:BQ c a c d=BQ a c c d*-1:=by unfold BQ;grind
 have C:BQ a b c d=-BQ c d a b:=by rw[j];omega
 by_cases h1:a=b/\c=d/\¬a=c;.rw[AZ h1,AZ ⟨h1.2.1,h1.1,λe=>h1.2.2 e.symm⟩]
 rw[AX h1,AX<|show¬(c=d/\a=b/\¬c=a)fromλe=>h1 ⟨e.2.1,e.1,λe'=>e.2.2 e'.symm⟩];rw[j,s,z];by_cases hz:BQ a b c d=0
 .rw[AZ hz,AZ<|show-BQ a b c d=0 by omega,Zn a b c d];by_cases hh:BQ a b a c=0/\BQ a b a d=0/\BQ c d c a=0/\BQ c d c b=0;.rw[AZ hh,AZ<|show BQ c d c a=0/\BQ c d c b=0/\BQ a b a c=0/\BQ a b a d=0 from⟨hh.2.2.1,hh.2.2.2,hh.1,hh.2.1⟩]
  rw[AX hh,AX<|show¬(BQ c d c a=0/\BQ c d c b=0/\BQ a b a c=0/\BQ a b a d=0)fromλe=>hh ⟨e.2.2.1,e.2.2.2,e.1,e.2.1⟩]
 rw[AX hz,AX<|show¬-BQ a b c d=0 by omega];by_cases hneg:BQ a b c d<0;.rw[AZ hneg,AX<|show¬-BQ a b c d<0 by omega];congr 1;simp only[eq_iff_iff];omega
 rw[AX hneg,AZ<|show-BQ a b c d<0 by omega];congr 1;simp only[eq_iff_iff];omega
theorem apV(a b c d:Pt):KA a b c d=KA c d a b:=by rw[yP,yP,afh]
def GY.fst(s:GY):Pt:=s.path.getD s.k AY
def GY.snd(s:GY):Pt:=s.path.getD (s.k+1) AY
def GY.west(s:GY):Int:=min s.fst.x s.snd.x
def GY.east(s:GY):Int:=max s.fst.x s.snd.x
def GY.sg(s:GY):Sg:=⟨s.arc,s.k,s.path.length-1,s.fst,s.snd⟩
def uJ(a b:GY):Bool:=decide (a.k+1=b.k)||a.arc.fr==a.arc.dst&&decide (a.k=0)&&decide ((b.k:Int)=(b.path.length:Int)-2)
def aCl(m:Int)(a b:GY):Bool:=if uJ a b then m==1 else m==0
def aCm(f:Int->Pt)(s t:GY)(id:Int):Bool:=(id==t.arc.fr||id==t.arc.dst)&&Eh s.fst s.snd (f id)&&Eh t.fst t.snd (f id)
def YV(f:Int->Pt)(s t:GY):Bool:=if s.arc.id=t.arc.id then(if t.k<s.k then aCl (KA s.fst s.snd t.fst t.snd) t s else aCl (KA s.fst s.snd t.fst t.snd) s t)else if KA s.fst s.snd t.fst t.snd=1 then aCm f s t s.arc.fr||aCm f s t s.arc.dst else KA s.fst s.snd t.fst t.snd==0
theorem afi(f:Int->Pt)(s t:Dc):Qh f s t=YV f s.abs t.abs:=rfl
def aaW(s:GY)(n:Nd):Bool:=!(Eh s.fst s.snd n.pt&&!((s.k:Int)==0&&s.arc.fr==n.id)&&!((s.k:Int)==(s.path.length:Int)-2&&s.arc.dst==n.id))
def NZ(s:Dc)(n:Nd):Bool:=aaW s.abs n
def afj(f:Int->Pt)(nl:List Nd)(sl:List Dc):Prop:=(∀i j(_:i<j)(hj:j<sl.length),Jd sl[j]<=QT (sl[i]'(by omega))->Qh f (sl[i]'(by omega)) sl[j]=true)/\∀s∈sl,∀n∈nl,NZ s n=true
theorem zQ(l:List Int)(h:QS l=true):l.Pairwise (·<·):=by
 have h1:∀j(c:j+1<l.length),l[j]<l[j+1]:=λj c=>by unfold QS at h;rw[KO]at h;have:=h j<|FC.2 I;simpa[List.getD,DK c,DK<|show j<l.length by omega]using this
 have h2:∀d i(hi:i+d+1<l.length),l[i]'(by omega)<l[i+d+1]:=by intro d;induction d with|zero=>intro i hi;exact h1 i hi|succ d o=>intro i hi;have:=o i I;have:=h1 (i+d+1) I;simp only[Nat.add_assoc]at*;omega
 rw[FT];intro i j hi c s;have:=h2 (j-i-1) i I;simp only[show i+(j-i-1)+1=j by omega]at this;exact this
theorem aEc{α:Type}(l:List α)(f:α->Bool)(g:α->α->Bool):iy l f g=true↔(∀x∈l,f x=true)/\l.Pairwise λs t=>g s t=true:=by
 constructor
 .intro h;constructor
  .intro x j;obtain⟨i,hi,rfl⟩:=Dy.1 j;cases o:f l[i];.rw[agG l f g i hi o]at h;cases h
   rfl
  rw[FT];intro k i hk hi c;cases z:g l[k] l[i];.rw[agH l f g i k c hi z]at h;cases h
  rfl
 rintro⟨h1,h2⟩;rw[FT]at h2;exact agI l f g (λi hi=>h1 _<|BG hi) λi k hk hi=>h2 k i I hi hk
structure Sound(p:Pl):Prop where nodes:(p.nodes.map (·.id)).Pairwise (·<·)AP:(p.AP.map (·.id)).Pairwise (·<·)ends:∀a∈p.AP,KD p a=true
theorem zS{α:Type}(f:α->Int)(l:List α)(h:(l.map f).Pairwise (·<·))(a:α)(j:a∈l):l.find? λx=>f x==f a=some a:=by induction l with|nil=>cases j|cons b l o=>
  rw[FB,I8]at h;rcases Dv.1 j with rfl|c;.simp
  .have:=h.1 (f a)<|H6 c;rw[List.find?_cons_of_neg D8];exact o h.2 c
theorem Sound.path{p:Pl}(c:Sound p){a:Ar}(j:a∈p.AP):pathOf p a.id=some (AV p a):=by unfold pathOf findAr;rw[zS (·.id) p.AP c.AP a j];simp[c.ends a j]
theorem Sound.sG{p:Pl}(c:Sound p){a:Ar}(j:a∈p.AP):FY p a=(List.range<|(AV p a).length-1).map λk=>⟨a,AV p a,k⟩:=by unfold FY;rw[c.path j];rfl
theorem Sound.mem{p:Pl}(o:Sound p){x:GY}(c:x∈p.AP.flatMap (FY p)):x.arc∈p.AP/\x.path=AV p x.arc/\x.k+1<x.path.length:=by obtain⟨a,j,c⟩:=Fj.1 c;rw[o.sG j]at c;obtain⟨k,hk,rfl⟩:=EP.1 c;have:=FC.1 hk;exact⟨j,rfl,by show k+1<(AV p a).length;omega⟩
theorem Sound.RQ{p:Pl}(c:Sound p){x:Nd}(j:x∈p.nodes):nodeAt p x.id=x.pt:=by unfold nodeAt JW;rw[zS (·.id) p.nodes c.nodes x j];rfl
theorem Sound.aEd{p:Pl}(o:Sound p){a:Ar}(s:a∈p.AP):(∃x∈p.nodes,x.id=a.fr)/\∃x∈p.nodes,x.id=a.dst:=by have h:=o.ends a s;unfold KD at h;rw[EC]at h;obtain⟨h1,h2⟩:=h;obtain⟨x,c⟩:=Option.isSome_iff_exists.1 h1;obtain⟨y,j⟩:=Option.isSome_iff_exists.1 h2;exact⟨⟨x,Vz c,by simpa using List.find?_some c⟩,⟨y,Vz j,by simpa using List.find?_some j⟩⟩
theorem Sound.UN{p:Pl}(c:Sound p):Vk p=(p.AP.flatMap<|FY p).map GY.sg:=by
 unfold Vk;rw[aCb];have:∀l:List Ar,(∀a∈l,a∈p.AP)->l.flatMap (λa=>LV a<|AV p a)=l.flatMap λa=>(FY p a).map GY.sg:=by intro l;induction l with|nil=>intro _;rfl|cons a l j=>intro h;rw[LC,LC,j λb hb=>h b<|by simp[hb],c.sG<|h a Ak,KP];rfl
 exact this _ λa o=>o
theorem Sound.pw{p:Pl}(c:Sound p):(p.AP.flatMap<|FY p).Pairwise λx y=>x.arc.id=y.arc.id->x.arc=y.arc/\x.k<y.k:=by
 rw[qy];constructor;.intro a j;rw[c.sG j,H9];exact List.pairwise_lt_range.imp λh _=>⟨rfl,h⟩
 have h:=c.AP;rw[H9]at h;refine(List.Pairwise.and_mem.1 h).imp ?_;rintro a b⟨j,hb,hlt⟩x o y s z;rw[c.sG j]at o;rw[c.sG hb]at s;obtain⟨k,-,rfl⟩:=EP.1 o;obtain⟨m,-,rfl⟩:=EP.1 s;have C:a.id=b.id:=z;omega
theorem Sound.apW{p:Pl}(c:Sound p){x:GY}(j:x∈p.AP.flatMap (FY p))(h:x.k=0):x.fst=nodeAt p x.arc.fr:=by obtain⟨-,h2,-⟩:=c.mem j;unfold GY.fst;rw[h2,h];rfl
theorem Sound.apX{p:Pl}(c:Sound p){x:GY}(j:x∈p.AP.flatMap (FY p))(h:(x.k:Int)=(x.path.length:Int)-2):x.snd=nodeAt p x.arc.dst:=by
 obtain⟨-,h2,h3⟩:=c.mem j;unfold GY.snd;have:x.k+1=x.arc.via.length+1:=by rw[h2,En]at h;omega
 rw[h2,this];unfold AV;rw[aDq,G5,List.getElem?_append_right<|Dh _];simp
theorem Sound.chain{p:Pl}(j:Sound p){x y:GY}(s:x∈p.AP.flatMap (FY p))(z:y∈p.AP.flatMap (FY p))(C:x.arc=y.arc)(c:uJ x y=true):x.west<=y.east/\y.west<=x.east:=by
 have o:x.path=y.path:=by rw[(j.mem s).2.1,(j.mem z).2.1,C]
 unfold uJ at c;rw[LW]at c;unfold GY.west GY.east;rcases c with c|c
 .have hk:x.k+1=y.k:=by simpa using c
  have e:x.snd=y.fst:=by unfold GY.snd GY.fst;rw[o,hk]
  rw[e];omega
 simp only[EC,DI,beq_iff_eq]at c;obtain⟨⟨h1,h2⟩,h3⟩:=c;have e:x.fst=y.snd:=by rw[j.apW s h2,j.apX z h3,h1,C]
 rw[e];omega
theorem Sound.apZ{p:Pl}(j:Sound p)(f:Int->Pt){x y:GY}(o:x∈p.AP.flatMap (FY p))(s:y∈p.AP.flatMap (FY p))(hd:x.arc.id=y.arc.id->x.arc=y.arc)(h:x.east<y.west):YV f x y=true:=by
 have hm:KA x.fst x.snd y.fst y.snd=0:=apU _ _ _ _ h;have K:y.west<=y.east:=by unfold GY.west GY.east;omega
 have z:x.west<=x.east:=by unfold GY.west GY.east;omega
 unfold YV;rw[hm];by_cases hid:x.arc.id=y.arc.id
 .have C:=hd hid;rw[AZ hid];have M:uJ x y=false:=by rw[<-Je];intro c;have:=j.chain o s C c;omega
  have T:uJ y x=false:=by rw[<-Je];intro c;have:=j.chain s o C.symm c;omega
  simp[aCl,M,T]
 simp[hid]
theorem Sound.sym{p:Pl}{x y:GY}(hd:x.arc.id=y.arc.id->x.k≠y.k):YV (nodeAt p) x y=YV (nodeAt p) y x:=by
 unfold YV;rw[apV y.fst y.snd x.fst x.snd];by_cases hid:x.arc.id=y.arc.id
 .have hk:=hd hid;rw[AZ hid,AZ hid.symm];by_cases hlt:y.k<x.k;.rw[AZ hlt,AX<|show¬x.k<y.k by omega]
  rw[AX hlt,AZ<|show x.k<y.k by omega]
 rw[AX hid,AX<|show¬y.arc.id=x.arc.id fromλe=>hid e.symm];split
 .rw[KQ];simp only[aCm,LW,EC,beq_iff_eq];constructor;.rintro(⟨⟨h1,h2⟩,h3⟩|⟨⟨h1,h2⟩,h3⟩)<;>rcases h1 with h1|h1<;>rw[h1]at h2 h3<;>simp[h1,h2,h3]
  rintro(⟨⟨h1,h2⟩,h3⟩|⟨⟨h1,h2⟩,h3⟩)<;>rcases h1 with h1|h1<;>rw[h1]at h2 h3<;>simp[h1,h2,h3]
 rfl
theorem Sound.pair{p:Pl}(c:Sound p){x y:GY}(M:x∈p.AP.flatMap (FY p))(T:y∈p.AP.flatMap (FY p))(hd:x.arc.id=y.arc.id->x.arc=y.arc/\x.k<y.k):OE p x.sg y.sg=YV (nodeAt p) x y:=by
 obtain⟨U,px,kx⟩:=c.mem M;obtain⟨my,py,ky⟩:=c.mem T;unfold OE YV;show(if x.arc.id=y.arc.id then _ else _)=_;by_cases hid:x.arc.id=y.arc.id
 .obtain⟨ha,hk⟩:=hd hid;rw[AZ hid,AZ hid,AX<|show¬y.k<x.k by omega];unfold UZ aCl uJ;rw[yP];show if y.k=x.k+1\/x.k=0/\y.k+1=y.path.length-1/\x.arc.fr=x.arc.dst then GU x.fst x.snd y.fst y.snd==1 else GU x.fst x.snd y.fst y.snd==0=_;have:y.k=x.k+1\/x.k=0/\y.k+1=y.path.length-1/\x.arc.fr=x.arc.dst↔(decide (x.k+1=y.k)||x.arc.fr==x.arc.dst&&decide (x.k=0)&&decide ((y.k:Int)=(y.path.length:Int)-2))=true:=by
   simp only[LW,EC,DI,beq_iff_eq];constructor
   .rintro(h|⟨h1,h2,h3⟩);.left;omega
    right;exact⟨⟨h3,h1⟩,I⟩
   rintro(h|⟨⟨h1,h2⟩,h3⟩);.left;omega
   right;exact⟨h2,I,h1⟩
  simp only[this]
 rw[AX hid,AX hid];unfold OD;rw[yP];show if GU x.fst x.snd y.fst y.snd=1 then _ else GU x.fst x.snd y.fst y.snd==0=_;split
 .rw[KQ,PW];simp only[OC,Vj,aCm,LW,EC,beq_iff_eq,GY.sg,<-aak];constructor
  .rintro⟨n,hn,⟨⟨⟨h1,h2⟩,h3⟩,C⟩⟩;have K:=c.RQ hn;rw[<-K]at h3 C;rcases h1 with h1|h1;.left;rw[h1];exact⟨⟨by rcases h2 with h2|h2<;>simp[h2],h3⟩,C⟩
   right;rw[h1];exact⟨⟨by rcases h2 with h2|h2<;>simp[h2],h3⟩,C⟩
  obtain⟨⟨n1,j,s⟩,⟨n2,o,z⟩⟩:=c.aEd U;rintro(⟨⟨h1,h2⟩,h3⟩|⟨⟨h1,h2⟩,h3⟩)
  .refine⟨n1,j,⟨⟨⟨.inl s.symm,by rcases h1 with h1|h1<;>simp[s,h1]⟩,?_⟩,?_⟩⟩;.rw[<-c.RQ j,s];exact h2
   rw[<-c.RQ j,s];exact h3
  refine⟨n2,o,⟨⟨⟨.inr z.symm,by rcases h1 with h1|h1<;>simp[z,h1]⟩,?_⟩,?_⟩⟩;.rw[<-c.RQ o,z];exact h2
  rw[<-c.RQ o,z];exact h3
 rfl
theorem Sound.free{p:Pl}(c:Sound p){x:GY}(j:x∈p.AP.flatMap (FY p))(n:Nd):aaW x n=UJ x.sg n:=by obtain⟨o,s,z⟩:=c.mem j;unfold aaW UJ UH;rw[aak];show _=((x.k:Int)==0&&x.arc.fr==n.id||(x.k:Int)==((x.path.length-1:Nat):Int)-1&&x.arc.dst==n.id||!MG x.fst x.snd n.pt);rw[show((x.path.length-1:Nat):Int)-1=(x.path.length:Int)-2 by omega];cases MG x.fst x.snd n.pt<;>cases(x.k:Int)==0&&x.arc.fr==n.id<;>cases(x.k:Int)==(x.path.length:Int)-2&&x.arc.dst==n.id<;>rfl
theorem Sound.afk{p:Pl}(o:Sound p):p.AP.all (MI p)=true↔∀x∈p.AP.flatMap<|FY p,WO x.sg=true:=by
 rw[KO];constructor
 .intro h x C;obtain⟨s,K,M⟩:=o.mem C;have c:=h _ s;unfold MI at c;rw[o.path s]at c;simp only[EC,Rh,yE,beq_eq_false_iff_ne,IL]at c;obtain⟨h1,h2⟩:=c;rw[<-K]at h1 h2;unfold WO;simp only[EC,Rh,IL,LW,bne_iff_ne,DI];show¬x.fst=x.snd/\(x.arc.fr≠x.arc.dst\/3<=((x.path.length-1:Nat):Int));constructor;.intro e;unfold dY at h2;rw[KO]at h2;have:=h2 x.k<|FC.2 I;simp only[Rh,IL]at this;exact this e
  rcases h1 with h1|h1;.exact .inl h1
  right;omega
 intro h a c;unfold MI;rw[o.path c];have j:∀k,k+1<(AV p a).length->(⟨a,AV p a,k⟩:GY)∈p.AP.flatMap (FY p):=λk hk=>by refine Fj.2 ⟨a,c,?_⟩;rw[o.sG c];exact EP.2 ⟨k,FC.2 I,rfl⟩
 have z:∀k,k+1<(AV p a).length->¬(AV p a).getD k AY=(AV p a).getD (k+1) AY/\(a.fr≠a.dst\/3<=(((AV p a).length-1:Nat):Int)):=λk hk=>by have:=h _<|j k hk;unfold WO at this;simp only[EC,Rh,IL,LW,bne_iff_ne,DI]at this;exact this
 have T:=En p a;simp only[EC,Rh,yE,beq_eq_false_iff_ne,IL];constructor
 .rcases(z 0 I).2 with h1|h1;.exact .inl h1
  right;omega
 unfold dY;rw[KO];intro k hk;have hk:=FC.1 hk;simpa using(z k I).1
theorem Sound.apa{p:Pl}(M:Sound p)(hok:p.AP.all (MI p)=true)(sl:List Dc)(hs:(sl.map Dc.abs).Perm<|p.AP.flatMap<|FY p):afj (nodeAt p) p.nodes sl↔Nr p=true:=by
 generalize hL:p.AP.flatMap (FY p)=L at*;have T:∀{x},x∈L->x∈p.AP.flatMap (FY p):=λh=>by rw[hL];exact h
 have K:L.Pairwise λx y=>x.arc.id=y.arc.id->x.arc=y.arc/\x.k<y.k:=by rw[<-hL];exact M.pw
 have U:L.Pairwise λx y=>x.arc.id=y.arc.id->x.arc=y.arc/\x.k≠y.k:=K.imp λh e=>⟨(h e).1,by have:=(h e).2;omega⟩;have afl:(sl.map Dc.abs).Pairwise λx y=>x.arc.id=y.arc.id->x.arc=y.arc/\x.k≠y.k:=(hs.pairwise_iff<|λh e=>⟨(h e.symm).1.symm,λe'=>(h e.symm).2 e'.symm⟩).2 U;have afm:∀{x},x∈sl.map Dc.abs->x∈p.AP.flatMap (FY p):=λh=>T<|hs.mem_iff.1 h;let R:GY->GY->Prop:=λx y=>YV (nodeAt p) x y=true/\YV (nodeAt p) y x=true;have h1:(sl.map Dc.abs).Pairwise R↔L.Pairwise R:=hs.pairwise_iff λh=>⟨h.2,h.1⟩;have h2:L.Pairwise R↔(L.map GY.sg).Pairwise λs t=>OE p s t=true:=by
  rw[H9,FT,FT];rw[FT]at K;constructor;.intro h i j hi o c;rw[M.pair (T<|BG hi) (T<|BG o)<|K i j hi o c];exact(h i j hi o c).1
  intro h i j hi o c;have hh:=h i j hi o c;have ho:=K i j hi o c;rw[M.pair (T<|BG hi) (T<|BG o) ho]at hh;refine⟨hh,?_⟩;rw[<-Sound.sym (p:=p) λe=>by have:=(ho e).2;omega];exact hh
 have h3:(∀i j(_:i<j)(o:j<sl.length),Jd sl[j]<=QT (sl[i]'(by omega))->Qh (nodeAt p) (sl[i]'(by omega)) sl[j]=true)↔(sl.map Dc.abs).Pairwise R:=by
  rw[FT];rw[FT]at afl;constructor
  .intro h i j hi o c;have hj':j<sl.length:=by simpa using o
   have mi:=afm<|BG hi;have mj:=afm<|BG o;have hd:=afl i j hi o c;have hc:YV (nodeAt p) (sl.map Dc.abs)[i] (sl.map Dc.abs)[j]=true:=by
    by_cases hw:Jd sl[j]<=QT (sl[i]'(by omega));.have:=h i j c hj' hw;rw[afi]at this;simpa using this
    refine M.apZ (nodeAt p) mi mj (λe=>(hd e).1) ?_;have hlt:QT (sl[i]'(by omega))<Jd sl[j]:=I;rw[Ib,Ib];exact hlt
   refine⟨hc,?_⟩;rw[<-Sound.sym (p:=p) λe=>(hd e).2];exact hc
  intro h i j c o _;have:=(h i j D8 (by simpa using o) c).1;rw[afi];simpa using this
 have h4:(∀s∈sl,∀n∈p.nodes,NZ s n=true)↔∀x∈L,p.nodes.all (UJ x.sg)=true:=by
  constructor;.intro h x C;rw[KO];intro n hn;obtain⟨s,z,rfl⟩:=EP.1<|hs.mem_iff.2 C;rw[<-M.free<|T C];exact h s z n hn
  intro h s z n hn;have C:=hs.mem_iff.1<|H6 (f:=Dc.abs) z;have:=KO.1 (h _ C) n hn;unfold NZ;rw[M.free<|T C];exact this
 unfold afj Nr;rw[M.UN,hL,aEc,h3,h1,h2,h4,and_comm];refine and_congr_left λ_=>?_;constructor;.intro h s z;obtain⟨x,C,rfl⟩:=EP.1 z;unfold SA;rw[h x C,M.afk.1 hok x<|T C];rfl
 intro h x C;have:=h _<|H6 (f:=GY.sg) C;unfold SA at this;rw[EC]at this;exact this.1
theorem Sound.apb{p:Pl}(j:Sound p)(c:p.AP.all (MI p)=false):Nr p=false:=by
 rw[<-Je];intro h;unfold Nr at h;rw[aEc,j.UN]at h;have:p.AP.all (MI p)=true:=j.afk.2 λx o=>by have:=h.1 _<|H6 (f:=GY.sg) o;unfold SA at this;rw[EC]at this;exact this.2
 rw[c]at this;cases this
def lq(l:List Nd):Int->Pt:=l.foldl (λf n=>λi=>if i=n.id then n.pt else f i) λ_=>z0
theorem apc(l:List Nd)(k:Nat)(hk:k<l.length):lq (l.take<|k+1)=λi=>if i=l[k].id then l[k].pt else lq (l.take k) i:=by unfold lq;rw[Eu hk,LG];rfl
theorem apd(p:Pl)(h:(p.nodes.map (·.id)).Pairwise (·<·)):lq p.nodes=nodeAt p:=by
 unfold nodeAt JW;generalize p.nodes=l at*;have c:∀(l:List Nd)(f:Int->Pt),(l.map (·.id)).Pairwise (·<·)->∀i,(l.foldl (λf n=>λi=>if i=n.id then n.pt else f i) f) i=match l.find? λn=>n.id==i with|some n=>n.pt|none=>f i:=by intro l;induction l with|nil=>intro f _ i;rfl|cons a l j=>
   intro f h i;rw[FB,I8]at h;rw[V8,j _ h.2];by_cases e:a.id=i
   .rw[List.find?_cons_of_pos<|by simp[e]];have:l.find? λn=>n.id==i=none:=by rw[List.find?_eq_none];intro x o;have:=h.1 x.id<|H6 o;simp;omega
    rw[this];simp[e]
   .rw[List.find?_cons_of_neg<|by simp[e]];split;.rfl
    rw[AX λe'=>e e'.symm]
 funext i;have:=c l (λ_=>z0) h i;unfold lq;rw[this];cases l.find? λn=>n.id==i<;>rfl
open Go.RowKit Go.Sort
theorem zT{w w':World}(h:Nj w w'):∃q c,w'=grow (w.drewN q) c:=by
 obtain⟨hb,hd⟩:=h;refine⟨w'.drawn-w.drawn,w'.heap.extract w.heap.size w'.heap.size,?_⟩;have j:w'.heap=w.heap++w'.heap.extract w.heap.size w'.heap.size:=by
  apply Array.ext;.have:=hb.size;simp;omega
  intro i h1 h2;by_cases hi:i<w.heap.size;.rw[Array.getElem_append_left hi];have:=hb.block i hi;rw[Array.getElem?_eq_getElem h1,Array.getElem?_eq_getElem hi]at this;injection this
  rw[Array.getElem_append_right I,Array.getElem_extract];congr 1;omega
 have h1:=hb.os;have h2:=hb.tape;have h3:=hb.output;cases w;cases w';simp only[grow,World.drewN,World.mk.injEq]at*;exact⟨j,h2,I,h1,h3⟩
section
variable{α:Type}[Inhabited α](enc:α->List Value)(k:Nat)(w:World)
theorem sH(blk off m:Nat)(c:Array α)(j:Array Obj):(sortWorldK enc k w blk off m c j).heap=w.heap.modify blk (onCells<|putCells id off<|flatK enc k c)++j:=rfl
theorem iP(blk off m:Nat)(o:Array α)(s:Array Obj):w.grownBy (sortWorldK enc k w blk off m o s)<|some blk:=by
 refine⟨rfl,rfl,rfl,?_,λi hi j=>?_⟩;.rw[sH];simp
 have c:blk≠i:=λe=>j Rf;rw[sH,Array.getElem?_append_left qj,Array.getElem?_modify,AX c]
end
theorem sJ{α:Type}(f:α->Int)(x y:α):ltOf (λx y=>Lj (f x)<|f y) x y=decide (f x<f y):=by
 unfold ltOf Lj;by_cases h:f x<f y;.simp[h]
 by_cases h':f y<f x<;>simp[h,h']
theorem aaX{α:Type}(f:α->Int):SWO<|ltOf<|λx y:α=>Lj (f x)<|f y where
 irrefl x:=by rw[sJ];simp
 trans x y z h1 h2:=by rw[sJ]at*;simp at*;omega
 ntrans x y z h1 h2:=by rw[sJ]at*;simp at*;omega
def ape(w:World)(base:Nat)(v:Value)(sl:List Dc)(e:Ending)(w':World):Prop:=e=.returned (.tuple #[])/\∃sl':List Dc,sl'.Perm sl/\(∀i j(hij:i<j)(hj:j<sl'.length),Jd (sl'[i]'(by omega))<=Jd sl'[j])/\Own w' base 230 2 JA v sl'/\(∀s∈sl',Fq w' s)/\w.grownBy w' v.ownBlock
theorem apf:∀w,(isAgg 230).run prog w=.ok true w:=λ_=>by kernel_rfl
theorem afn:∀w,(Go.sizeOf 230).run prog w=.ok 2 w:=λ_=>by kernel_rfl
theorem iQ{α:Type}[Inhabited α](enc:α->List Value)(k:Nat)(hk:∀x,(enc x).length=k)(d:Array α)(j:Nat)(c:j<d.size*k):(flatK enc k d)[j]! =(d.toList.flatMap enc)[j]!:=by
 rw[get_flatK _ _ _ _ c];have o:0<k:=by
  rcases Xe k with h|h;.subst h;simp at c
  exact h
 have h1:j/k<d.size:=aDj (by rw[yA];exact c);have h2:j%k<k:=V7 _ o;have e:=flat_get enc k hk d.toList (j/k) (j%k) (by simpa using h1) h2;rw[yB]at e;rw[List.getElem!_eq_getElem?_getD,List.getElem!_eq_getElem?_getD,e];congr 2;rw[getElem!_pos d _ h1];simp
theorem apg(base:Nat)(v:Value)(sl:List Dc)(w:World)(M:Own w base 230 2 JA v sl)(hok:∀s∈sl,Fq w s)(hn:sl.length<=4294967296):Calls prog 226 #[v,.func (.func 227) #[] #[]] w<|ape w base v sl:=by
 rcases sl with _|⟨s0,rest⟩
 .have hv:∃p z,v=.slice p 0 z:=by
   rcases M.2 with⟨h,_⟩|⟨g,z,o,h,_⟩;.exact⟨_,_,h⟩
   exact⟨_,_,h⟩
  obtain⟨p,z,rfl⟩:=hv;refine Calls.mono (AnyF.slices_SortFunc_none Tryz.sortSeg p z (.func (.func 227) #[] #[]) w) ?_;rintro e w'⟨rfl,rfl⟩;exact⟨rfl,[],List.Perm.refl _,λi j _ C=>by simp at C,M,(λs hs=>by cases hs),World.grownBy.refl _ _⟩
 generalize hsl:s0::rest=sl at*;have hs0:s0∈sl:=by rw[<-hsl];simp
 have hpos:0<sl.length:=by rw[<-hsl];simp
 obtain⟨hlen,hown2⟩:=M;rcases hown2 with⟨_,h0⟩|⟨g,z,o,rfl,hg,hh,hnc,hcm,hcs,hx⟩;.omega
 haveI hI:Inhabited {s:Dc//Fq w s}:=⟨⟨s0,hok s0 hs0⟩⟩;have T:∃K:List {s:Dc//Fq w s},K.map (·.1)=sl:=⟨sl.attachWith (Fq w) hok,Ak⟩;obtain⟨K,T⟩:=T;have hdn:K.length=sl.length:=by rw[<-T];simp
 have hfm:K.flatMap (λx=>JA x.1)=sl.flatMap JA:=by rw[<-T,Qm]
 have U:∀g',(some g:Option Nat)=some g'->∃cs,AO w g' 230 cs:=λg' e=>by injection e with e;subst e;exact⟨o,hh⟩
 have hcur:∀j,j<sl.length*2->o[j]?=(sl.flatMap JA)[j]?:=λj C=>by rw[<-hx,List.getElem?_take,AZ C];simp
 have eg:∀args w,(callFunc 227 args).run prog w=.ok (.enter 227 args) w:=enters_of func227 IK rfl;have hkk:∀x:{s:Dc//Fq w s},(JA x.1).length=2:=λ_=>rfl;have hcmp:CmpLays prog 227 #[] (λx:{s:Dc//Fq w s}=>JA x.1) 2 (λx y=>Lj (Jd x.1)<|Jd y.1) g 0 K.toArray.size w:=λm os dk hdk x y=>by have hg':=iP (λx:{s:Dc//Fq w s}=>JA x.1) 2 w g 0 m dk os;have hx:=x.2.grow hg' U BI BI;have hy:=y.2.grow hg' U BI BI;exact(anu x.1 y.1 _ hx hy).mono λe w' h=>⟨h.1,zT h.2⟩
 have hsz:K.toArray.size*2=sl.length*2:=by simp[hdn]
 have hH:HoldsK (λx:{s:Dc//Fq w s}=>JA x.1) 2 w g 0 K.toArray:=λj C=>by
  rw[size_flatK,hsz]at C;refine⟨?_,AO.frozen (t:=230) (cs:=o) hh _⟩;rw[cell_of_row w g _ o 230 (0,0) hh,Rk,hcur j C,iQ _ 2 hkk _ j<|by rw[hsz];exact C];simp only[id];rw[hfm,List.getElem!_eq_getElem?_getD];have:j<(sl.flatMap JA).length:=by rw[hlen];exact C
  rw[DK this];rfl
 have hcon:=AnyQ.slices_SortFunc Tryz.sortSeg 2 apf afn (λx:{s:Dc//Fq w s}=>JA x.1) hkk (λx=>agN x.1) (λx y=>Lj (Jd x.1)<|Jd y.1) (aaX λx:{s:Dc//Fq w s}=>Jd x.1) 227 #[] g 0 z K.toArray w eg hcmp hH (AO.lt hh) D8;have hns:K.toArray.size=sl.length:=by simp[hdn]
 rw[hns]at hcon;refine Calls.mono hcon ?_;rintro e w'⟨rfl,c,n,os,hp,hs,rfl⟩;obtain⟨p1,-,p3⟩:=hp;have hd':c.size=sl.length:=by rw[p1,hns]
 have hperm:c.toList.Perm K:=by
  have e1:c.extract 0 sl.length=c:=by rw[<-hd'];simp
  have e2:K.toArray.extract 0 sl.length=K.toArray:=by rw[<-hns];simp
  rw[e1,e2]at p3;simpa using p3
 have hg':=iP (λx:{s:Dc//Fq w s}=>JA x.1) 2 w g 0 n c os;refine⟨rfl,c.toList.map (·.1),by rw[<-T];exact hperm.map _,?_,?_,?_,hg'⟩
 .intro i j hij C;have hj':j<c.size:=by simpa using C
  have:=hs i j (C9 _) hij (by rw[<-hd'];exact hj');rw[sJ λx:{s:Dc//Fq w s}=>Jd x.1,IL,getElem!_pos c j hj',getElem!_pos c i I]at this;simp only[Ib,Array.getElem_toList];omega
 .have hl':(c.toList.map (·.1)).length=sl.length:=by simp[hd']
  unfold Own;rw[hl'];have hfd:(c.toList.map (·.1)).flatMap JA=c.toList.flatMap λx=>JA x.1:=by rw[Qm]
  have hln:((c.toList.map (·.1)).flatMap JA).length=sl.length*2:=by rw[flat_length JA 2 aD4,hl']
  refine⟨hln,.inr ⟨g,z,putCells id 0 (flatK (λx:{s:Dc//Fq w s}=>JA x.1) 2 c) o,rfl,hg,?_,hnc,hcm,xZ,?_⟩⟩;.have hgl:g<w.heap.size:=AO.lt hh;rw[sH,Array.getElem?_append_left<|by simpa using hgl,Array.getElem?_modify,AZ rfl,hh];rfl
  apply qw;intro j;rw[List.getElem?_take];by_cases C:j<sl.length*2
  .rw[AZ C,hfd];have hjc:j<o.size:=by rw[hcs];have:=qx 2 hnc;omega
   have hjd:j<c.size*2:=by rw[hd'];exact C
   have e1:(putCells id 0 (flatK (λx:{s:Dc//Fq w s}=>JA x.1) 2 c) o).toList[j]?=some (flatK (λx:{s:Dc//Fq w s}=>JA x.1) 2 c)[j]!:=by simp[putCells,hjc,hjd]
   rw[e1,iQ _ 2 hkk _ j hjd,List.getElem!_eq_getElem?_getD];have:j<(c.toList.flatMap λx=>JA x.1).length:=by rw[<-hfd,hln];exact C
   rw[DK this];rfl
  rw[AX C,aN<|by rw[hln];omega]
 intro s hs;obtain⟨x,-,rfl⟩:=EP.1 hs;exact x.2.grow hg' U BI BI
theorem Row.psg{w:World}{A:Option Addr}{l:List Dc}(h:Row w A<|l.flatMap JA){k:Nat}(hk:k<l.length):∃b o,A=some ⟨b,o,none⟩/\b<w.heap.size/\w.cell? ⟨b,o+k*2,none⟩=some (.pointer<|some ⟨l[k].ln.g,0,none⟩)/\w.cell? ⟨b,o+k*2+1,none⟩=some (.int .i64 l[k].k):=by obtain⟨b,o,j,hb,c⟩:=h.at_ (n:=2) (λ_=>rfl) hk I;exact⟨b,o,j,hb,c 0 _ rfl,c 1 _ rfl⟩
theorem free_eq(s:Dc)(n:Nd):NZ s n=!(Eh s.fst s.snd n.pt&&!((s.k:Int)==0&&s.ln.arc.fr==n.id)&&!((s.k:Int)==(s.ln.path.length:Int)-2&&s.ln.arc.dst==n.id)):=rfl
structure aph(f:Int->Pt)(nl:List Nd)(sl:List Dc)(q:Bool):Prop where
 pair:∀i j(_:i<j)(hj:j<sl.length),Jd sl[j]<=QT (sl[i]'(by omega))->Qh f (sl[i]'(by omega)) sl[j]=false->q=false
 node:∀i(hi:i<sl.length)m(hm:m<nl.length),NZ sl[i] nl[m]=false->q=false
 yes:(∀i j(_:i<j)(hj:j<sl.length),Jd sl[j]<=QT (sl[i]'(by omega))->Qh f (sl[i]'(by omega)) sl[j]=true)->(∀i(hi:i<sl.length)m(hm:m<nl.length),NZ sl[i] nl[m]=true)->q=true
theorem verdict{p:Pl}(M:Sound p)(c:p.AP.all (MI p)=true){sl:List Dc}(o:(sl.map Dc.abs).Perm<|p.AP.flatMap<|FY p):aph (nodeAt p) p.nodes sl<|Nr p:=by
 have z:=M.apa c sl o;refine⟨λi j C T U hc=>?_,λi hi m hm hf=>?_,λh1 h2=>z.1 ⟨h1,λs o n hn=>?_⟩⟩;.rw[<-Je];intro K;have:=(z.2 K).1 i j C T U;rw[hc]at this;cases this
 .rw[<-Je];intro K;have:=(z.2 K).2 _ (BG hi) _<|BG hm;rw[hf]at this;cases this
 obtain⟨i,hi,rfl⟩:=Dy.1 o;obtain⟨m,hm,rfl⟩:=Dy.1 hn;exact h2 i hi m hm
theorem apj(v:Value)(p:Pl)(w:World)(h:Cj w v p)(hsh:Short p)(hl:(p.AP.flatMap<|FY p).length<=2097152)(hnl:p.nodes.length<=4096)(aEe:∀n∈p.nodes,Eb n.id)(hp:Sound p):Calls prog 181 #[v] w λe w'=>e=.returned (.bool<|Nr p)/\AU w w':=by
 have hno:=@Sound.apb p hp;have afo:=λhok sl hs=>@verdict p hp hok sl hs;have hlast:=apd p hp.nodes;have har:∀a∈p.AP,Eb a.fr/\Eb a.dst:=λa ha=>by obtain⟨⟨n1,h1,e1⟩,⟨n2,h2,e2⟩⟩:=hp.aEd ha;exact⟨e1▸aEe n1 h1,e2▸aEe n2 h2⟩
 have afp:∀x∈p.AP.flatMap<|FY p,Eb x.arc.fr/\Eb x.arc.dst:=λx hx=>har _ (hp.mem hx).1;have hseg:=aoM v p;obtain⟨apk,HP,Hno,afq,afs,Hsh,Hl⟩:=V9 hseg h hno afo afp hsh hl;clear hno afo afp hseg hsh hl har hp;generalize Nr p=q at*;obtain⟨_,va,vf,al,rfl,-,⟨An,cn,rfl,hn1,hn2,hR⟩,-⟩:=h;unfold maxLen at hn2;have HR:=V hR;clear hR;have hnw:∀k(hk:k<p.nodes.length),Eb p.nodes[k].id:=λk hk=>aEe _<|BG hk;clear aEe;have SC:=V hnw;clear hnw;generalize hF:nodeAt p=c at*;generalize hA:p.AP.flatMap (FY p)=AL at*;have apl:=V hlast;clear hlast hF;have HA:=V hA;clear hA;generalize hNl:p.nodes=T at*;clear hNl;go_enter func181,ntmps181;go_wp2_with fail;refine(apk.1 _ (HP.1.mono<|bA (bR w) _) Hsh.1 Hl.1).mono ?_;rintro e w1⟨hb1,hr⟩;have Bw:AU w w1:=J (bA (bR w) _) hb1;have X1:AO w1 w.heap.size 26 #[.slice An T.length cn,va,vf]:=(AO.made rfl _ _).keep hb1;clear hb1;cases hok:p.AP.all<|MI p;case false=>rw[hok]at hr;simp only[O7,if_false]at hr;subst hr;have hf:=V<|Hno.1 hok;clear hok;obtain⟨Au,Aw,Az,BA,-⟩:=X1.BF;go_wp2;go_ret;exact⟨Cm hf.1.symm,Bw⟩
 rw[hok]at hr;simp only[if_true]at hr;obtain⟨sl,vs,rfl,hsl,aft,hown⟩:=hr;rw[HA.1]at hsl;have afu:sl.length<=2097152:=by have:=congrArg List.length hsl;rw[D6]at this;have:=Hl.1;omega
 have hsz1:=Bw.size;have hs1:=Own.sl<|Own.EN hown (b':=w.heap.size) Ak;obtain⟨As,cs,rfl,hs1,hs2,-⟩:=hs1;unfold maxLen at hs2;have afv:=Own.lt hown;obtain⟨F7,afw,Vl,DU,afx⟩:=G9 (Own.EN hown (b':=w.heap.size) Ak) aft hsl X1<|afq.1 hok;clear hsl aft hown hok;have hnb:=F7.1.ET X1 BI;have afy:=V afv;have Hnb:=V hnb;clear afv hnb;try clear Au Aw Az BA
 obtain⟨Au,Aw,Az,BA,-⟩:=X1.BF;have lu:=V<|Jp.made w1;have hmm:=@run_makeMap prog;go_wp2_with fail;obtain⟨W2,hW2⟩:=BR<|w1.alloc<|.map #[] 0;have KH:FK<|Jp W2 w1.heap.size 0<|λ_=>z0:=by rw[hW2];exact lu
 have hA2:AU w1 W2:=by rw[hW2];exact bA (bR w1) _
 have HB2:=V hA2;rw[<-hW2];clear hmm hW2 hA2 X1 Au Aw Az BA lu;have hx2:=HB2.1.size;go_loopw[27](λu wr=>∃k:Nat,k<=T.length/\u=.int .i64 k/\AU w1 wr/\Jp wr w1.heap.size k (lq<|T.take k))λu _=>T.length-(intOf u).toNat;case atStart=>exact⟨0,C9 _,rfl,HB2.1,KH.out⟩
 obtain⟨k,hk,rfl,hb,hm⟩:=hrel;have Hb:=V hb;have Hm:=V hm;have rX:=hb.size;clear hb hm;by_cases hlt:k<T.length;case pos=>
  obtain⟨b,o,rfl,hlb,c0,c1,c2⟩:=(HR.1.mono<|J Bw Hb.1).nd hlt;obtain⟨w3,hr3,RS,hg3⟩:=Jp.upd (Hm.1.keep<|bA (bR wr)<|.cells #[.int .i64 T[k].id,.int .i64 T[k].pt.x,.int .i64 T[k].pt.y] 56) I T[k].id (SC.1 k hlt) T[k].pt;have hm4:Jp w3 w1.heap.size (k+1)<|lq<|T.take<|k+1:=by rw[apc T k hlt];exact RS
  have B3:AU w1 w3:=bG (bA Hb.1 _) hg3 (λg hg=>by injection hg with hg;omega);have Hm4:=V hm4;have HB3:=V B3;unfold BD at hr3;clear RS hg3 hm4 B3;go_wp2;go_roundw;case rel=>exact⟨k+1,I,BH,HB3.1,Hm4.1⟩
  exact BJ
 have hall:T.take k=T:=Ip I;have hm:=Hm.1;rw[hall,apl.1]at hm;have hkm:k<=4096:=I;replace Hm:=V hm;clear hm hall;go_wp2_with fail;refine(apg w.heap.size _ sl _ (F7.1.keep Hb.1) (λs hs=>(afw.1 s hs).keep Hb.1) I).mono ?_;rintro e w4⟨rfl,z,hperm,hsort,hown',hok',hg⟩;have hps:(z.map Dc.abs).Perm AL:=by have:=hperm.map Dc.abs;rw[Vl.1]at this;exact this
 have hwf:∀s∈z,Eb s.ln.arc.fr/\Eb s.ln.arc.dst:=λs hs=>by have:=afs.1 s.abs<|hps.mem_iff.1<|H6 hs;exact this
 have hlen':z.length=sl.length:=hperm.length_eq;have B4:AU w w4:=bG (J Bw Hb.1) hg λg hg'=>(F7.1.lt g hg').1;have hm4:Jp w4 w1.heap.size k c:=Hm.1.kept hg (λe=>by have:=(afy.1 _ e.symm).2;omega);have X1:AO w4 w.heap.size 26 #[.slice An T.length cn,va,vf]:=(DU.1.keep Hb.1).grown hg λe=>Hnb.1 e.symm;have hV:=afx.1 z hps;have hrow:Row w4 As<|z.flatMap JA:=by obtain⟨A0,c0,e0,-,-,hr0⟩:=Own.sl hown';injection e0 with e0 _ _;subst e0;exact hr0
 obtain⟨HV,D7,mD,HB4,jA,afz,apm,sK⟩:=aCe hV X1 hm4 B4 hok' hrow hsort hwf;clear hps hperm hsort hown' hok' hg hwf B4 hm4 X1 hV hrow F7 afw Vl afs afq afx afy Hnb Hm KH DU Hb HB2 rX hx2;have ays:z.length<=2097152:=by rw[hlen'];exact afu
 rw[<-hlen']at hs1⊢;clear hlen' afu;go_wp2_with fail;obtain⟨wo,rfl⟩:=BR wr;go_loopw[41](λu wr=>∃i:Nat,i<=z.length/\u=.int .i64 i/\AU w4 wr/\(∀a b(_:a<b)(hb:b<z.length),a<i->Jd z[b]<=QT (z[a]'(by omega))->Qh c (z[a]'(by omega)) z[b]=true)/\∀a(ha:a<z.length)m(hm:m<T.length),a<i->NZ z[a] T[m]=true)λu _=>z.length-(intOf u).toNat;case atStart=>exact⟨0,C9 _,rfl,bR w4,λ_ _ _ _ h=>I,λ_ _ _ _ h=>I⟩
 obtain⟨i,hi,rfl,hb,aAG,Xo⟩:=hrel;obtain⟨Hb,aaY,UF⟩:=CB hb aAG Xo;clear hb aAG Xo;by_cases hlt:i<z.length;case neg=>have hf:=V<|HV.1.yes (λa b hab hb hw=>aaY.1 a b hab hb I hw)<|λa ha m hm=>UF.1 a ha m hm I;go_wp2;go_ret;exact⟨Cm hf.1.symm,J HB4.1 Hb.1⟩
 obtain⟨b,o,hAs,hlb,c0,c1⟩:=(afz.1.mono Hb.1).psg hlt;obtain⟨Ac,Cc,Ud⟩:∃Ac Cc,Ac=nI As cs (i+1) 2/\Cc=cs-(i+1):=⟨_,_,rfl,rfl⟩;have ag0:∀W,(Instr.slice 224 (.slice As z.length cs) (some<|.int .i64<|(i:Int)+1) none none).run prog W=.ok (.slice Ac (z.length-(i+1)) Cc) W:=λW=>by rw[Ud.1,Ud.2];exact afR Tryz.underlying224 afn As z.length cs (i+1) I _ I W
 have iR:=V Ud;clear Ud;subst hAs;obtain⟨dl,hdl⟩:=BR<|z.drop<|i+1;have hdn:z.length-(i+1)=dl.length:=by rw[hdl,kZ]
 have hdg:∀j(hj:j<dl.length),∃h:i+1+j<z.length,dl[j]=z[i+1+j]:=λj hj=>by subst hdl;rw[kZ]at hj;exact⟨I,Ak⟩
 have ag1:Row w4 Ac<|dl.flatMap JA:=by rw[iR.1.1,hdl,<-afS JA 2 aD4];exact afz.1.cut<|by rw[flat_length JA 2 aD4];omega
 rw[hdn]at ag0;obtain⟨gq,ag2,HDn⟩:=CB hdg ag1 hdn;have hdb:dl.length<=2097152:=I;clear hdl hdg ag1 iR hdn;have hsi:=V<|jA.1 _<|BG hlt;have ag3:∀j,i<j->∀hj:j<z.length,Jd z[j]<=QT z[i]->Qh c z[i] z[j]=false->q=false:=λj hij hj=>HV.1.pair i j hij hj;have hnodes:∀m(hm:m<T.length),NZ z[i] T[m]=false->q=false:=λm hm=>HV.1.node i hlt m hm;have hdone:(∀j,i<j->∀hj:j<z.length,Jd z[j]<=QT z[i]->Qh c z[i] z[j]=true)->∀a b(_:a<b)(hb:b<z.length),a<i+1->Jd z[b]<=QT (z[a]'(by omega))->Qh c (z[a]'(by omega)) z[b]=true:=λh a b hab hb ha=>by
  by_cases e:a<i;.exact aaY.1 a b hab hb e
  have:a=i:=I;subst this;exact h b hab hb
 have afU:(∀m(hm:m<T.length),NZ z[i] T[m]=true)->∀a(ha:a<z.length)m(hm:m<T.length),a<i+1->NZ z[a] T[m]=true:=λh a ha m hm hai=>by
  by_cases e:a<i;.exact UF.1 a ha m hm e
  have:a=i:=I;subst this;exact h m hm
 have afV:=sK.1 _<|BG hlt;generalize aml:z[i]=C at*;obtain⟨afW,aEf,afX,aox,afY⟩:=G9 ag3 hnodes hdone afU afV;clear aml ag3 hnodes hdone afU aaY UF afV;have rG:=DR<|(i:Int)+1;have r3:0<=(i:Int)+1:=I;have r4:(i:Int)+1<=z.length:=I;have r5:((i:Int)+1).toNat=i+1:=I;go_upto_block 4 with fail;obtain⟨W5,IW⟩:=BR<|wr.alloc<|.cells #[.pointer<|some ⟨C.ln.g,0,none⟩,.int .i64 C.k] 230;have Cb:=V (show AU w4 W5 by rw[IW];exact bA Hb.1 _);have X9:AO W5 wr.heap.size 230 #[.pointer<|some ⟨C.ln.g,0,none⟩,.int .i64 C.k]:=by rw[IW];exact AO.made rfl _ _
 have MJ:=V X9;rw[<-IW];clear IW X9 ag0 rG r3 r4 r5 c0 c1 hlb;obtain⟨wp,rfl⟩:=BR wr;have TW:∀s:Dc,∀W,Fq W s->Calls prog 228 #[Ii s] W _:=λs W h=>aaR s W h;have TE:∀s:Dc,∀W,Fq W s->Calls prog 229 #[Ii s] W _:=λs W h=>aoG s W h;have TC:∀s t:Dc,∀W,Fq W s->Fq W t->Jp W w1.heap.size k c->Eb s.ln.arc.fr->Eb s.ln.arc.dst->Calls prog 230 #[Ii s,Ii t,.map<|some w1.heap.size] W _:=λs t W h1 h2 h3 h4 h5=>anv c w1.heap.size k s t W h1 h2 h3 h4 h5;unfold Ii at TW TE TC;obtain⟨HTW,HTE,HTC⟩:=CB TW TE TC;clear TW TE TC;go_cut[51]λu wx=>AU W5 wx/\∀j,i<j->∀hj:j<z.length,Jd z[j]<=QT C->Qh c C z[j]=true;case first=>
  go_wp2_with fail;go_loopw[51](λu wx=>∃j:Nat,j<=dl.length/\u=.int .i64 j/\AU W5 wx/\∀m(hm:m<dl.length),m<j->Jd dl[m]<=QT C->Qh c C dl[m]=true)λu _=>dl.length-(intOf u).toNat;case atStart=>exact⟨0,C9 _,rfl,bR W5,λ_ _ h=>I⟩
  obtain⟨j,hj,rfl,hbx,hnx⟩:=hrel;have GV:=V hbx;have WT:=V hnx;have hxs:=hbx.size;have X9:=MJ.1.keep hbx;clear hbx hnx;by_cases hlj:j<dl.length;case neg=>have hf:=V (show∀j,i<j->∀hj:j<z.length,Jd z[j]<=QT C->Qh c C z[j]=true fromλm him hm hw=>by have hd:=HDn.1;obtain⟨h1,h2⟩:=gq.1 (m-(i+1)) I;have e:i+1+(m-(i+1))=m:=I;simp only[e]at h2;have:=WT.1 (m-(i+1)) I I;rw[h2]at this;exact this hw);go_wp2;go_meet;exact⟨GV.1,hf.1⟩
  obtain⟨b',o',rfl,Po,d0,d1⟩:=(ag2.1.mono<|J Cb.1 GV.1).psg hlj;obtain⟨hjs,hje⟩:=gq.1 j hlj;have htj:=V<|jA.1 _<|BG hjs;rw[<-hje]at htj;have hwj:=V hje;clear hje;go_upto_region 17 with fail;obtain⟨W7,hW7⟩:=BR<|wr.alloc<|.cells #[.pointer<|some ⟨dl[j].ln.g,0,none⟩,.int .i64 dl[j].k] 230;have hA7:AU wr W7:=by rw[hW7];exact bA (bR wr) _
  have MW:AO W7 wr.heap.size 230 #[.pointer<|some ⟨dl[j].ln.g,0,none⟩,.int .i64 dl[j].k]:=by rw[hW7];exact AO.made rfl _ _
  rw[<-hW7];replace X9:=X9.keep hA7;have B7:=V<|J Cb.1<|J GV.1 hA7;have B7':=V<|J GV.1 hA7;clear hW7 hA7 d0 d1 Po;obtain⟨Hg,Hu,Jf,-⟩:=X9.BL;obtain⟨YW,YX,aaZ,-⟩:=MW.BL;refine CZ W7 (.take 0 1<|.take 2 5<|.call 1 7<|.call 3 15<|.take 4 31<|.done) λCG QR Ae Aj hS=>?_;iterate 2 refine Ah ?_
  refine BP ?_;clear hS;intro K hK AQ;go_simp;refine(HTW.1 _ _<|htj.1.keep<|J B7.1 AQ.out).mono ?_;rintro e Bv⟨rfl,Bj,-⟩;have hS:Since W7 Bv:=J (w:=W7) AQ.out Bj;clear AQ;refine hK.out _ _ hS λ_=>?_;clear hK K;try simp only[pu]
  refine BP ?_;clear hS;intro K hK AQ;go_simp;refine(HTE.1 _ _<|hsi.1.keep<|J B7.1 AQ.out).mono ?_;rintro e wr2⟨rfl,F5,-⟩;have hS:Since W7 wr2:=J (w:=W7) AQ.out F5;clear AQ;refine hK.out _ _ hS λ_=>?_;clear hK K;try simp only[pu]
  refine Ah ?_;refine CX ?_;clear hS Aj Ae;intro hB;have B8:=V<|J B7.1 hB;have B8':=V<|J B7'.1 hB;replace X9:=X9.keep hB;replace MW:=MW.keep hB;clear hB;try clear Hg Hu Jf
  obtain⟨Hg,Hu,Jf,-⟩:=X9.BL;try clear YW YX aaZ
  obtain⟨YW,YX,aaZ,-⟩:=MW.BL;by_cases hw:QT C<Jd dl[j]
  .have hf:=V (show∀j,i<j->∀hj:j<z.length,Jd z[j]<=QT C->Qh c C z[j]=true fromλm him hm hwm=>by
    by_cases e:m<i+1+j;.have hd:=HDn.1;obtain⟨h1,h2⟩:=gq.1 (m-(i+1)) I;have e:i+1+(m-(i+1))=m:=I;simp only[e]at h2;have:=WT.1 (m-(i+1)) I I;rw[h2]at this;exact this hwm
    have hs:Jd dl[j]<=Jd z[m]:=by
     rw[hwj.1];by_cases e':m=i+1+j;.subst e';exact J8 _
     exact apm.1 (i+1+j) m I hm
    omega);go_wp2;go_meet;exact⟨B8'.1,hf.1⟩
  have hw':=V hw;go_wp2_with fail;refine(HTC.1 _ _ _ (hsi.1.keep B8.1) (htj.1.keep B8.1) (mD.1.keep B8.1) afY.1.1 afY.1.2).mono ?_;rintro e w9⟨rfl,Pq⟩;have B9:=V<|J B8'.1 Pq;clear Pq X9 MW Hg Hu Jf YW YX aaZ hw;cases hc:Qh c C dl[j];case false=>have hf:=V (show false=q by have hq:=afW.1 (i+1+j) I hjs;rw[<-hwj.1]at hq;exact(hq (by have:=hw'.1;omega) hc).symm);clear hc;go_wp2;go_ret;exact⟨Cm hf.1,J HB4.1<|J Cb.1 B9.1⟩
  have hc':=V hc;clear hc;go_wp2;go_roundw;case rel=>exact⟨j+1,I,BH,B9.1,all_succ (p:=λt=>Jd t<=QT C->Qh c C t=true) WT.1 hlj λ_=>hc'.1⟩
  exact BJ
 obtain⟨hbc,hpd⟩:=hcut;have Ue:=V<|afX.1 hpd;have HBc:=V<|J Cb.1 hbc;have X9:=MJ.1.keep hbc;replace MJ:=V X9;have X1:=D7.1.keep HBc.1;have HY:=V<|hsi.1.keep HBc.1;clear hbc hpd afW afX gq ag2 HDn X9 HTW HTE HTC hdb;have TS:∀W,Fq W C->Calls prog 231 #[Ii C] W _:=λW hW=>aAK C W hW;have TO:∀p q r:Pt,∀W,Calls prog 39 #[BD p,BD q,BD r] W _:=λp q r W=>zB p q r W;have TF:∀W,Calls prog 232 #[Ii C] W _:=λW=>agL C W;have TL:∀W,Fq W C->Calls prog 233 #[Ii C] W _:=λW hW=>agM C W hW;unfold Ii at TS TF TL;unfold BD at TS TO;obtain⟨HTS,RU,SE,TU⟩:=D9 TS TO TF TL;clear TS TO TF TL;try clear Au Aw Az BA
 obtain⟨Au,Aw,Az,BA,-⟩:=X1.BF;go_wp2_with fail;clear X1 Au Aw Az BA;go_loopw[69](λu wx=>∃m:Nat,m<=T.length/\u=.int .i64 m/\AU wc wx/\∀n(hn:n<T.length),n<m->NZ C T[n]=true)λu _=>T.length-(intOf u).toNat;case atStart=>exact⟨0,C9 _,rfl,bR wc,λ_ _ h=>I⟩
 obtain⟨m,hm,rfl,hbx,hnx⟩:=hrel;have GV:=V hbx;have WT:=V hnx;have X9:=MJ.1.keep hbx;clear hbx hnx;by_cases hlm:m<T.length;case neg=>
  have hf:=V<|aox.1<|λn hn=>WT.1 n hn I;clear X9;go_wp2;go_roundw;case rel=>exact⟨i+1,I,BH,J HBc.1 GV.1,Ue.1,hf.1⟩
  exact BJ
 obtain⟨b,o,rfl,hlb,c0,c1,c2⟩:=(HR.1.mono<|J HB4.1<|J HBc.1 GV.1).nd hlm;try clear Hg Hu Jf
 obtain⟨Hg,Hu,Jf,-⟩:=X9.BL;go_wp2_with fail;refine(HTS.1 _<|HY.1.keep<|bA GV.1 _).mono ?_;rintro e w10⟨rfl,mF,-⟩;have hA10:AU wr w10:=J (bA (bR wr) _) mF;have SG:AO w10 wr.heap.size 56 #[.int .i64 T[m].id,.int .i64 T[m].pt.x,.int .i64 T[m].pt.y]:=(AO.made rfl _ _).keep mF;replace X9:=X9.keep hA10;replace GV:=V<|J GV.1 hA10;clear mF hA10 c0 c1 c2 hlb Hg Hu Jf;go_upto_region 25 with fail;obtain⟨M,zU⟩:=BR<|(w10.alloc<|.cells #[.int .i64 C.fst.x,.int .i64 C.fst.y] 50).alloc<|.cells #[.int .i64 C.snd.x,.int .i64 C.snd.y] 50;have aEg:AU w10 M:=by rw[zU];exact bA (bA (bR w10) _) _
 have VI:AO M w10.heap.size 50 #[.int .i64 C.fst.x,.int .i64 C.fst.y]:=by rw[zU];exact(AO.made rfl _ _).alloc _
 have YZ:AO M (w10.heap.size+1) 50 #[.int .i64 C.snd.x,.int .i64 C.snd.y]:=by rw[zU];exact AO.made Ak _ _
 rw[<-zU];replace X9:=X9.keep aEg;replace SG:=SG.keep aEg;replace GV:=V<|J GV.1 aEg;have Y:=(HY.1.keep GV.1).line;clear zU aEg;try clear Hg Hu Jf
 obtain⟨Hg,Hu,Jf,-⟩:=X9.BL;obtain⟨mG,mJ,mM,ayt,-⟩:=SG.BF;obtain⟨YS,YT,YU,-⟩:=VI.BL;obtain⟨zV,zW,zZ,-⟩:=YZ.BL;obtain⟨Yl,Ya,Yb,Yc,Yd,Ye,Yf,Yg,-⟩:=Y.iD;have U:=V<|free_eq C T[m];have TF:=SE.1;have TL:=TU.1;have TO:=RU.1 C.fst C.snd T[m].pt;cases e1:Eh C.fst C.snd T[m].pt;case false=>
  rw[e1]at TO;obtain⟨hf,RU,SE,TU⟩:=D9 (show NZ C T[m]=true by rw[U.1];simp only[e1];rfl) TO TF TL;clear TO TF TL U e1;refine CZ M (.run 4 0 0<|.call 4 31<|.run 32 5 31<|.done) λCG QR Ae Aj hS=>?_;iterate 4 refine Ah ?_
  refine BP ?_;clear hS;intro K hK AQ;go_simp;refine(RU.1 _).mono ?_;rintro e Bv⟨rfl,Bj⟩;have hS:Since M Bv:=J (w:=M) AQ.out Bj;clear AQ;refine hK.out _ _ hS λ_=>?_;clear hK K;try simp only[pu]
  refine Ah ?_;iterate 14 refine Iu ?_
  iterate 2 refine Ah ?_
  iterate 14 refine Iu ?_
  refine Ah ?_;refine CX ?_;clear hS Aj Ae;intro hB;go_wp2;go_roundw;case rel=>exact⟨m+1,I,BH,J GV.1 hB,all_succ (p:=λn=>NZ C n=true) WT.1 hlm hf.1⟩
  exact BJ
 rw[e1]at TO;cases e2:(C.k:Int)==0;case false=>
  rw[e2]at TF;cases e4:(C.k:Int)==(C.ln.path.length:Int)-2;case false=>
   rw[e4]at TL;obtain⟨hf,RU,SE,TU⟩:=D9 (show NZ C T[m]=false by rw[U.1];simp only[e1,e2,e4];rfl) TO TF TL;clear TO TF TL U e1 e2 e4;refine CZ M (.run 4 0 0<|.call 4 31<|.take 5 63<|.take 6 127<|.call 7 255<|.run 15 8 255<|.call 23 16777215<|.run 13 24 16777215<|.done) λCG QR Ae Aj hS=>?_;iterate 4 refine Ah ?_
   refine BP ?_;clear hS;intro K hK AQ;go_simp;refine(RU.1 _).mono ?_;rintro e Bv⟨rfl,Bj⟩;have hS:Since M Bv:=J (w:=M) AQ.out Bj;clear AQ;refine hK.out _ _ hS λ_=>?_;clear hK K;try simp only[pu]
   refine Ah ?_;refine DT ?_;refine BP ?_;clear hS;intro K hK AQ;go_simp;refine(SE.1 _).mono ?_;rintro e wr2⟨rfl,F5⟩;have hS:Since M wr2:=J (w:=M) AQ.out F5;clear AQ;refine hK.out _ _ hS λ_=>?_;clear hK K;try simp only[pu]
   refine DT ?_;iterate 9 refine Iu ?_
   iterate 2 refine DT ?_
   iterate 2 refine Ah ?_
   refine DT ?_;refine BP ?_;clear hS;intro K hK AQ;go_simp;refine(TU.1 _<|HY.1.keep<|J GV.1 AQ.out).mono ?_;rintro e wr3⟨rfl,Ld⟩;have hS:Since M wr3:=J (w:=M) AQ.out Ld;clear AQ;refine hK.out _ _ hS λ_=>?_;clear hK K;try simp only[pu]
   refine DT ?_;iterate 9 refine Iu ?_
   iterate 2 refine DT ?_
   refine Ah ?_;refine CX ?_;clear hS Aj Ae;intro hB;have hr:=V<|aEf.1 m hlm hf.1;go_wp2;go_ret;exact⟨Cm hr.1.symm,J HB4.1<|J HBc.1<|J GV.1 hB⟩
  rw[e4]at TL;cases e5:C.ln.arc.dst==T[m].id;case false=>
   obtain⟨hf,RU,SE,TU⟩:=D9 (show NZ C T[m]=false by rw[U.1];simp only[e1,e2,e4,e5];rfl) TO TF TL;clear TO TF TL U e1 e2 e4;refine CZ M (.run 4 0 0<|.call 4 31<|.take 5 63<|.take 6 127<|.call 7 255<|.run 15 8 255<|.call 23 16777215<|.run 13 24 16777215<|.done) λCG QR Ae Aj hS=>?_;iterate 4 refine Ah ?_
   refine BP ?_;clear hS;intro K hK AQ;go_simp;refine(RU.1 _).mono ?_;rintro e Bv⟨rfl,Bj⟩;have hS:Since M Bv:=J (w:=M) AQ.out Bj;clear AQ;refine hK.out _ _ hS λ_=>?_;clear hK K;try simp only[pu]
   refine Ah ?_;refine DT ?_;refine BP ?_;clear hS;intro K hK AQ;go_simp;refine(SE.1 _).mono ?_;rintro e wr2⟨rfl,F5⟩;have hS:Since M wr2:=J (w:=M) AQ.out F5;clear AQ;refine hK.out _ _ hS λ_=>?_;clear hK K;try simp only[pu]
   refine DT ?_;iterate 9 refine Iu ?_
   iterate 2 refine DT ?_
   iterate 2 refine Ah ?_
   refine DT ?_;refine BP ?_;clear hS;intro K hK AQ;go_simp;refine(TU.1 _<|HY.1.keep<|J GV.1 AQ.out).mono ?_;rintro e wr3⟨rfl,Ld⟩;have hS:Since M wr3:=J (w:=M) AQ.out Ld;clear AQ;refine hK.out _ _ hS λ_=>?_;clear hK K;try simp only[pu]
   iterate 12 refine DT ?_
   refine Ah ?_;refine CX ?_;clear hS Aj Ae;intro hB;have hr:=V<|aEf.1 m hlm hf.1;go_wp2;go_ret;exact⟨Cm hr.1.symm,J HB4.1<|J HBc.1<|J GV.1 hB⟩
  obtain⟨hf,RU,SE,TU⟩:=D9 (show NZ C T[m]=true by rw[U.1];simp only[e1,e2,e4,e5];rfl) TO TF TL;clear TO TF TL U e1 e2 e4;refine CZ M (.run 4 0 0<|.call 4 31<|.take 5 63<|.take 6 127<|.call 7 255<|.run 15 8 255<|.call 23 16777215<|.run 13 24 16777215<|.done) λCG QR Ae Aj hS=>?_;iterate 4 refine Ah ?_
  refine BP ?_;clear hS;intro K hK AQ;go_simp;refine(RU.1 _).mono ?_;rintro e Bv⟨rfl,Bj⟩;have hS:Since M Bv:=J (w:=M) AQ.out Bj;clear AQ;refine hK.out _ _ hS λ_=>?_;clear hK K;try simp only[pu]
  refine Ah ?_;refine DT ?_;refine BP ?_;clear hS;intro K hK AQ;go_simp;refine(SE.1 _).mono ?_;rintro e wr2⟨rfl,F5⟩;have hS:Since M wr2:=J (w:=M) AQ.out F5;clear AQ;refine hK.out _ _ hS λ_=>?_;clear hK K;try simp only[pu]
  refine DT ?_;iterate 9 refine Iu ?_
  iterate 2 refine DT ?_
  iterate 2 refine Ah ?_
  refine DT ?_;refine BP ?_;clear hS;intro K hK AQ;go_simp;refine(TU.1 _<|HY.1.keep<|J GV.1 AQ.out).mono ?_;rintro e wr3⟨rfl,Ld⟩;have hS:Since M wr3:=J (w:=M) AQ.out Ld;clear AQ;refine hK.out _ _ hS λ_=>?_;clear hK K;try simp only[pu]
  iterate 12 refine DT ?_
  refine Ah ?_;refine CX ?_;clear hS Aj Ae;intro hB;go_wp2;go_roundw;case rel=>exact⟨m+1,I,BH,J GV.1 hB,all_succ (p:=λn=>NZ C n=true) WT.1 hlm hf.1⟩
  exact BJ
 rw[e2]at TF;cases e3:C.ln.arc.fr==T[m].id;case false=>
  cases e4:(C.k:Int)==(C.ln.path.length:Int)-2;case false=>
   rw[e4]at TL;obtain⟨hf,RU,SE,TU⟩:=D9 (show NZ C T[m]=false by rw[U.1];simp only[e1,e2,e3,e4];rfl) TO TF TL;clear TO TF TL U e1 e2 e4;refine CZ M (.run 4 0 0<|.call 4 31<|.take 5 63<|.take 6 127<|.call 7 255<|.run 15 8 255<|.call 23 16777215<|.run 13 24 16777215<|.done) λCG QR Ae Aj hS=>?_;iterate 4 refine Ah ?_
   refine BP ?_;clear hS;intro K hK AQ;go_simp;refine(RU.1 _).mono ?_;rintro e Bv⟨rfl,Bj⟩;have hS:Since M Bv:=J (w:=M) AQ.out Bj;clear AQ;refine hK.out _ _ hS λ_=>?_;clear hK K;try simp only[pu]
   refine Ah ?_;refine DT ?_;refine BP ?_;clear hS;intro K hK AQ;go_simp;refine(SE.1 _).mono ?_;rintro e wr2⟨rfl,F5⟩;have hS:Since M wr2:=J (w:=M) AQ.out F5;clear AQ;refine hK.out _ _ hS λ_=>?_;clear hK K;try simp only[pu]
   iterate 12 refine DT ?_
   iterate 2 refine Ah ?_
   refine DT ?_;refine BP ?_;clear hS;intro K hK AQ;go_simp;refine(TU.1 _<|HY.1.keep<|J GV.1 AQ.out).mono ?_;rintro e wr3⟨rfl,Ld⟩;have hS:Since M wr3:=J (w:=M) AQ.out Ld;clear AQ;refine hK.out _ _ hS λ_=>?_;clear hK K;try simp only[pu]
   refine DT ?_;iterate 9 refine Iu ?_
   iterate 2 refine DT ?_
   refine Ah ?_;refine CX ?_;clear hS Aj Ae;intro hB;have hr:=V<|aEf.1 m hlm hf.1;go_wp2;go_ret;exact⟨Cm hr.1.symm,J HB4.1<|J HBc.1<|J GV.1 hB⟩
  rw[e4]at TL;cases e5:C.ln.arc.dst==T[m].id;case false=>
   obtain⟨hf,RU,SE,TU⟩:=D9 (show NZ C T[m]=false by rw[U.1];simp only[e1,e2,e3,e4,e5];rfl) TO TF TL;clear TO TF TL U e1 e2 e4;refine CZ M (.run 4 0 0<|.call 4 31<|.take 5 63<|.take 6 127<|.call 7 255<|.run 15 8 255<|.call 23 16777215<|.run 13 24 16777215<|.done) λCG QR Ae Aj hS=>?_;iterate 4 refine Ah ?_
   refine BP ?_;clear hS;intro K hK AQ;go_simp;refine(RU.1 _).mono ?_;rintro e Bv⟨rfl,Bj⟩;have hS:Since M Bv:=J (w:=M) AQ.out Bj;clear AQ;refine hK.out _ _ hS λ_=>?_;clear hK K;try simp only[pu]
   refine Ah ?_;refine DT ?_;refine BP ?_;clear hS;intro K hK AQ;go_simp;refine(SE.1 _).mono ?_;rintro e wr2⟨rfl,F5⟩;have hS:Since M wr2:=J (w:=M) AQ.out F5;clear AQ;refine hK.out _ _ hS λ_=>?_;clear hK K;try simp only[pu]
   iterate 12 refine DT ?_
   iterate 2 refine Ah ?_
   refine DT ?_;refine BP ?_;clear hS;intro K hK AQ;go_simp;refine(TU.1 _<|HY.1.keep<|J GV.1 AQ.out).mono ?_;rintro e wr3⟨rfl,Ld⟩;have hS:Since M wr3:=J (w:=M) AQ.out Ld;clear AQ;refine hK.out _ _ hS λ_=>?_;clear hK K;try simp only[pu]
   iterate 12 refine DT ?_
   refine Ah ?_;refine CX ?_;clear hS Aj Ae;intro hB;have hr:=V<|aEf.1 m hlm hf.1;go_wp2;go_ret;exact⟨Cm hr.1.symm,J HB4.1<|J HBc.1<|J GV.1 hB⟩
  obtain⟨hf,RU,SE,TU⟩:=D9 (show NZ C T[m]=true by rw[U.1];simp only[e1,e2,e3,e4,e5];rfl) TO TF TL;clear TO TF TL U e1 e2 e4;refine CZ M (.run 4 0 0<|.call 4 31<|.take 5 63<|.take 6 127<|.call 7 255<|.run 15 8 255<|.call 23 16777215<|.run 13 24 16777215<|.done) λCG QR Ae Aj hS=>?_;iterate 4 refine Ah ?_
  refine BP ?_;clear hS;intro K hK AQ;go_simp;refine(RU.1 _).mono ?_;rintro e Bv⟨rfl,Bj⟩;have hS:Since M Bv:=J (w:=M) AQ.out Bj;clear AQ;refine hK.out _ _ hS λ_=>?_;clear hK K;try simp only[pu]
  refine Ah ?_;refine DT ?_;refine BP ?_;clear hS;intro K hK AQ;go_simp;refine(SE.1 _).mono ?_;rintro e wr2⟨rfl,F5⟩;have hS:Since M wr2:=J (w:=M) AQ.out F5;clear AQ;refine hK.out _ _ hS λ_=>?_;clear hK K;try simp only[pu]
  iterate 12 refine DT ?_
  iterate 2 refine Ah ?_
  refine DT ?_;refine BP ?_;clear hS;intro K hK AQ;go_simp;refine(TU.1 _<|HY.1.keep<|J GV.1 AQ.out).mono ?_;rintro e wr3⟨rfl,Ld⟩;have hS:Since M wr3:=J (w:=M) AQ.out Ld;clear AQ;refine hK.out _ _ hS λ_=>?_;clear hK K;try simp only[pu]
  iterate 12 refine DT ?_
  refine Ah ?_;refine CX ?_;clear hS Aj Ae;intro hB;go_wp2;go_roundw;case rel=>exact⟨m+1,I,BH,J GV.1 hB,all_succ (p:=λn=>NZ C n=true) WT.1 hlm hf.1⟩
  exact BJ
 obtain⟨hf,RU,SE,TU⟩:=D9 (show NZ C T[m]=true by rw[U.1];simp only[e1,e2,e3];rfl) TO TF TL;clear TO TF TL U e1 e2;refine CZ M (.run 4 0 0<|.call 4 31<|.take 5 63<|.take 6 127<|.call 7 255<|.run 29 8 255<|.done) λCG QR Ae Aj hS=>?_;iterate 4 refine Ah ?_
 refine BP ?_;clear hS;intro K hK AQ;go_simp;refine(RU.1 _).mono ?_;rintro e Bv⟨rfl,Bj⟩;have hS:Since M Bv:=J (w:=M) AQ.out Bj;clear AQ;refine hK.out _ _ hS λ_=>?_;clear hK K;try simp only[pu]
 refine Ah ?_;refine DT ?_;refine BP ?_;clear hS;intro K hK AQ;go_simp;refine(SE.1 _).mono ?_;rintro e wr2⟨rfl,F5⟩;have hS:Since M wr2:=J (w:=M) AQ.out F5;clear AQ;refine hK.out _ _ hS λ_=>?_;clear hK K;try simp only[pu]
 iterate 12 refine DT ?_
 iterate 2 refine Ah ?_
 iterate 14 refine Iu ?_
 refine Ah ?_;refine CX ?_;clear hS Aj Ae;intro hB;go_wp2;go_roundw;case rel=>exact⟨m+1,I,BH,J GV.1 hB,all_succ (p:=λn=>NZ C n=true) WT.1 hlm hf.1⟩
 exact BJ
theorem aoy(p:Pl)(a:Ar):hasB (p.nodes.map (·.id)) a=KD p a:=by
 have h:∀id:Int,(p.nodes.map (·.id)).any λy=>y==id=(JW p.nodes id).isSome:=λid=>by unfold JW;rw[lH,KQ,PW,List.find?_isSome];rfl
 unfold hasB KD;rw[h,h]
theorem afZ(p:Pl):WR p (p.nodes.map (·.id))=if Vh (p.nodes.map (·.pt))=true then 8 else if p.AP.all (KD p)=false then 7 else if Vm p=false then 12 else 0:=by unfold WR;have:hasB (p.nodes.map (·.id))=KD p:=funext λa=>aoy p a;rw[this]
theorem aoz(p:Pl)(h:Jr p=false):LM p=if SB p=false then 10 else if Ou p=false then 2 else if WR p (p.nodes.map (·.id))=0 then if Nr p=false then 11 else 0 else WR p (p.nodes.map (·.id)):=by
 unfold LM;rw[h,afZ];rw[AX<|show¬false=true by decide];split;.rfl
 split;.rfl
 split;.rfl
 split;.rfl
 split;.rfl
 rfl
theorem ap0(p:Pl)(h:WR p (p.nodes.map (·.id))=0):∀a∈p.AP,KD p a=true:=by
 rw[afZ]at h;cases h2:p.AP.all<|KD p
 .rw[h2]at h;split at h;.omega
  simp at h
 exact KO.1 h2
theorem ap1(p:Pl):nZ p=(Vg p).all KC:=by
 unfold nZ Vg;have h:∀l:List Pt,(!l.any Nq)=l.all KC:=λl=>by induction l with|nil=>rfl|cons a l c=>rw[aDk,aCM,Bool.not_or,c,aoc,Bool.not_not]
 rw[List.all_append,List.all_flatMap,ZE];have h1:(!p.nodes.any λn=>Nq n.pt)=p.nodes.all (KC∘λn=>n.pt):=by have:=h (p.nodes.map (·.pt));rw[lH,ZE]at this;exact this
 have h2:(!p.AP.any λa=>a.via.any Nq)=p.AP.all λa=>a.via.all KC:=by rw[List.not_any_eq_all_not];congr 1;funext a;exact h a.via
 rw[h1,h2]
theorem zf(p:Pl):Ou p=(!(p.nodes.map (·.id)).any LJ&&!(p.AP.map (·.id)).any LJ&&!p.faces.any LJ&&nZ p):=by unfold Ou;rw[ap1,aDl,aDl,Bool.not_or,Bool.not_or]
theorem ap2{α:Type}{l:List α}{q:α->Bool}(h:l.any q=false):∀x∈l,q x=false:=λx c=>by rw[Xg]at h;have:=h x c;simpa using this
theorem ap3{l:List Nd}(h:(l.map (·.id)).any LJ=false):∀n∈l,Eb n.id:=λn hn=>by have:=ap2 h n.id<|H6 hn;simp only[LJ,Rl,IL]at this;exact L8 I I
theorem ap4{p:Pl}(h:Jr p=false):(p.AP.flatMap<|FY p).length<=2097152:=by
 obtain⟨h1,h2,h3,c,j⟩:=aAI h;have o:=aD0 p.AP (FY p) 65 (λa s=>by simp only[FY,D6,Oo];unfold pathOf;cases hb:findAr p.AP a.id with|none=>simp|some b=>
   simp only[];split;.have:=h1 b<|aCy hb;simp only[I7,En];omega
   .simp);omega
theorem afa(v:Value)(p:Pl)(w:World)(h:Cj w v p):Calls prog 128 #[v] w λe w'=>e=.returned (.int .i64<|LM p)/\AU w w':=by
 have HP:=V h;obtain⟨_,_,_,al,rfl,hpa,⟨An,cn,rfl,hn1,hn2,-⟩,⟨⟨Aa,ca,rfl,ha1,ha2,G6⟩,hV⟩,hF⟩:=h;have HF:=V hF;obtain⟨Af,cf,rfl,hf1,hf2,-⟩:=hF;unfold maxLen at hn2 ha2 hf2;have HV:=V hV;clear hV;have IU:=V G6;clear G6;obtain⟨q,C⟩:=BM<|LM p;rw[C];have hq2:=C;unfold LM at C;have hbig:256<p.nodes.length\/256<al.length\/64<p.faces.length->3=q:=λhh=>by rw[<-C,AZ];unfold Jr;rw[hpa,D6];simp only[LW,DI];omega
 have Pv:∀k(hk:k<al.length),64<al[k].1.via.length->3=q:=λk hk hh=>by rw[<-C,AZ];unfold Jr;rw[hpa,lH];have:=UE al ((λa=>decide<|64<a.via.length)∘λx=>x.1) k hk (by simpa using hh);rw[this];rfl
 have hsmall:¬256<p.nodes.length->¬256<al.length->¬64<p.faces.length->(∀k(hk:k<al.length),¬64<al[k].1.via.length)->Jr p=false:=λh1 h2 h3 h4=>by unfold Jr;rw[hpa,D6,lH];have:=Vf al ((λa=>decide<|64<a.via.length)∘λx=>x.1) (λj hj=>by have:=h4 j hj;simpa using this);rw[this,GX h1,GX h2,GX h3];rfl
 obtain⟨Hq,Yh,afb,afc,jB⟩:=G9 hq2 hbig Pv hsmall hpa;clear C hq2 hbig Pv hsmall hpa;go_enter func128,ntmps128;by_cases g1:256<p.nodes.length;.have z:=V<|Yh.1<|.inl g1;go_wp2;go_ret;exact⟨DZ z.1,bA (bR w) _⟩
 by_cases g2:256<al.length;.have z:=V<|Yh.1<|.inr<|.inl g2;go_wp2;go_ret;exact⟨DZ z.1,bA (bR w) _⟩
 by_cases g3:64<p.faces.length;.have z:=V<|Yh.1<|.inr<|.inr g3;go_wp2;go_ret;exact⟨DZ z.1,bA (bR w) _⟩
 go_wp2_with fail;obtain⟨W1,hW1⟩:=BR<|w.alloc<|.cells #[.slice An p.nodes.length cn,.slice Aa al.length ca,.slice Af p.faces.length cf] 26;have HB1:=V (show AU w W1 by rw[hW1];exact bA (bR w) _);have DU:FK<|AO W1 w.heap.size 26 #[.slice An p.nodes.length cn,.slice Aa al.length ca,.slice Af p.faces.length cf]:=V (by rw[hW1];exact AO.made rfl _ _);rw[<-hW1];clear hW1;go_loopw[26](λu wr=>∃k:Nat,k<=al.length/\u=.int .i64 k/\AU W1 wr/\∀j(hj:j<al.length),j<k->¬64<al[j].1.via.length)λu _=>al.length-(intOf u).toNat;case atStart=>exact⟨0,C9 _,rfl,bR W1,λ_ _ h=>I⟩
 obtain⟨k,hk,rfl,hb,hno⟩:=hrel;have Hb:=V hb;have Hno:=V hno;have s:=DU.out.keep hb;clear hb hno;obtain⟨K,M,T,U,-⟩:=s.BF;by_cases hlt:k<al.length;case pos=>
  obtain⟨b,o,rfl,hlb,c0,c1,c2,c3,c4,c5⟩:=(IU.1.mono<|J HB1.1 Hb.1).ar hlt;obtain⟨Av,cv,hv,hv1,hv2,-⟩:=HV.1 k hlt;unfold maxLen at hv2;rw[hv]at c3;clear hv;by_cases hbig:64<al[k].1.via.length;.have z:=V<|afb.1 k hlt hbig;go_wp2;go_ret;exact⟨DZ z.1,J HB1.1<|bA Hb.1 _⟩
  have hb':=V hbig;go_wp2;go_roundw;case rel=>exact⟨k+1,I,BH,bA Hb.1 _,all_succ (p:=λa=>¬64<a.1.via.length) Hno.1 hlt hb'.1⟩
  exact BJ
 have hlim:=afc.1 g1 g2 g3 λj hj=>Hno.1 j hj I;have hlen:=ap4 hlim;have C:=Hq.1;rw[aoz p hlim]at C;have HLen:=V hlen;have hsh:Short p:=λa ha=>by have:=(aAI hlim).1 a ha;omega
 have DN:=V hsh;replace Hq:=V C;have ap5:p.AP.length<=4096:=by rw[jB.1,D6];omega
 clear hlim hlen hsh C Yh afb afc HV IU Hno;have Bw:=J HB1.1 Hb.1;clear Hb;go_wp2_with fail;refine(aof _ p _ (HP.1.mono Bw) I ap5).mono ?_;rintro e w2⟨v2,u2,rfl,hb2,ho1,ho2⟩;have Ko:=V<|Own.sl ho1;have EZ:=V<|Own.sl ho2;replace Bw:=J Bw hb2;replace s:=s.keep hb2;clear hb2 ho1 ho2;try clear K M T U
 obtain⟨K,M,T,U,-⟩:=s.BF;obtain⟨wz,rfl⟩:=BR w2;go_wp2_with fail;refine(aar _ _ _ Ko.1).mono ?_;rintro e w3⟨rfl,hb3⟩;have B3:=hb3;replace s:=s.keep hb3;clear hb3;try clear K M T U
 obtain⟨K,M,T,U,-⟩:=s.BF;cases h1:QS (p.nodes.map (·.id));case false=>have z:=V (show 10=q by rw[<-Hq.1,AZ<|by simp[SB,h1]]);clear h1;go_wp2;go_ret;exact⟨DZ z.1,J Bw B3⟩
 have H1:=V h1;clear h1;go_wp2_with fail;refine(aar _ _ _<|EZ.1.mono B3).mono ?_;rintro e w4⟨rfl,hb4⟩;have B4:=J B3 hb4;replace s:=s.keep hb4;clear hb4 B3;try clear K M T U
 obtain⟨K,M,T,U,-⟩:=s.BF;cases h1:QS (p.AP.map (·.id));case false=>have z:=V (show 10=q by rw[<-Hq.1,AZ<|by simp[SB,h1]]);clear h1;go_wp2;go_ret;exact⟨DZ z.1,J Bw B4⟩
 have H2:=V h1;clear h1;go_wp2_with fail;refine(aar _ _ _<|HF.1.mono<|J Bw B4).mono ?_;rintro e w5⟨rfl,hb5⟩;have B5:=J B4 hb5;replace s:=s.keep hb5;clear hb5 B4;try clear K M T U
 obtain⟨K,M,T,U,-⟩:=s.BF;cases h1:QS p.faces;case false=>have z:=V (show 10=q by rw[<-Hq.1,AZ<|by simp[SB,h1]]);clear h1;go_wp2;go_ret;exact⟨DZ z.1,J Bw B5⟩
 have C:=Hq.1;rw[AX<|show¬SB p=false by simp[SB,h1,H1.1,H2.1]]at C;replace Hq:=V C;clear C h1;go_wp2_with fail;refine(aat _ _ _<|Ko.1.mono B5).mono ?_;rintro e w6⟨rfl,hb6⟩;have B6:=J B5 hb6;replace s:=s.keep hb6;clear hb6 B5;try clear K M T U
 obtain⟨K,M,T,U,-⟩:=s.BF;cases h1:(p.nodes.map (·.id)).any LJ;case true=>have z:=V (show 2=q by rw[<-Hq.1,AZ<|by rw[zf,h1];rfl]);clear h1;go_wp2;go_ret;exact⟨DZ z.1,J Bw B6⟩
 have H3:=V h1;clear h1;go_wp2_with fail;refine(aat _ _ _<|EZ.1.mono B6).mono ?_;rintro e w7⟨rfl,hb7⟩;have B7:=J B6 hb7;replace s:=s.keep hb7;clear hb7 B6;try clear K M T U
 obtain⟨K,M,T,U,-⟩:=s.BF;cases h1:(p.AP.map (·.id)).any LJ;case true=>have z:=V (show 2=q by rw[<-Hq.1,AZ<|by rw[zf,h1];simp]);clear h1;go_wp2;go_ret;exact⟨DZ z.1,J Bw B7⟩
 have H4:=V h1;clear h1;go_wp2_with fail;refine(aat _ _ _<|HF.1.mono<|J Bw B7).mono ?_;rintro e w8⟨rfl,hb8⟩;have B8:=J B7 hb8;replace s:=s.keep hb8;clear hb8 B7;try clear K M T U
 obtain⟨K,M,T,U,-⟩:=s.BF;cases h1:p.faces.any LJ;case true=>have z:=V (show 2=q by rw[<-Hq.1,AZ<|by rw[zf,h1];simp]);clear h1;go_wp2;go_ret;exact⟨DZ z.1,J Bw B8⟩
 have H5:=V h1;clear h1;go_wp2_with fail;refine(aod _ p _<|HP.1.mono<|J Bw B8).mono ?_;rintro e w9⟨rfl,Pq⟩;have B9:=J B8 Pq;replace s:=s.keep Pq;clear Pq B8;try clear K M T U
 obtain⟨K,M,T,U,-⟩:=s.BF;cases h1:nZ p;case false=>have z:=V (show 2=q by rw[<-Hq.1,AZ<|by rw[zf,h1];simp]);clear h1;go_wp2;go_ret;exact⟨DZ z.1,J Bw B9⟩
 have C:=Hq.1;rw[AX<|show¬Ou p=false by rw[zf,h1,H3.1,H4.1,H5.1];decide]at C;replace Hq:=V C;clear C h1;go_wp2_with fail;refine(aoC _ _ p _ _ (HP.1.mono<|J Bw B9)<|Ko.1.mono B9).mono ?_;rintro e w10⟨rfl,mF⟩;have B10:=J B9 mF;replace s:=s.keep mF;clear mF B9;try clear K M T U
 obtain⟨K,M,T,U,-⟩:=s.BF;by_cases h1:WR p (p.nodes.map (·.id))=0;case neg=>have z:=V (show WR p (p.nodes.map (·.id))=q by rw[<-Hq.1,AX h1]);generalize WR p (p.nodes.map (·.id))=c at*;go_wp2;go_ret;exact⟨DZ z.1,J Bw B10⟩
 have C:=Hq.1;rw[AZ h1]at C;replace Hq:=V C;have ap6:=V<|ap0 p h1;rw[h1];clear C h1;have MK:FK<|Sound p:=V ⟨zQ _ H1.1,zQ _ H2.1,ap6.1⟩;go_wp2_with fail;refine(apj _ p _ (HP.1.mono<|J Bw B10) DN.1 HLen.1 I (ap3 H3.1) MK.out).mono ?_;rintro e WA⟨rfl,VJ⟩;have B11:=J B10 VJ;clear VJ B10 s K M T U;cases h1:Nr p;case false=>have z:=V (show 11=q by rw[<-Hq.1,AZ h1]);clear h1;go_wp2;go_ret;exact⟨DZ z.1,J Bw B11⟩
 have z:=V (show 0=q by rw[<-Hq.1,AX<|by rw[h1];decide]);clear h1;go_wp2;go_ret;exact⟨DZ z.1,J Bw B11⟩
