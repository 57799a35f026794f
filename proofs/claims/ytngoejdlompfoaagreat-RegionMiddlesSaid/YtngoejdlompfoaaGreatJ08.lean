import Derived.Test.YtngoejdlompfoaaGreatJ07
set_option linter.unusedSimpArgs false
set_option linter.unusedVariables false
namespace Go.Proofs.YtngoejdlompfoaaGreat
open Go.RowKit
theorem mg{o a b:Pt}(h:Es o a b):¬Es o b a:=by
 unfold Es Pn at*;rw[KT<|b.x-o.x,KT<|b.y-o.y];rcases h with⟨h1,h2⟩|⟨h1,h2⟩
 .rintro(⟨h3,c⟩|⟨h3,c⟩);.exact h1 c
  exact h1<|h3.1 h2
 rintro(⟨h3,c⟩|⟨h3,c⟩);.exact h3<|h1.1 c
 omega
theorem aqI(o a:Pt):¬Es o a a:=λh=>mg h h
def RX(v u a b:Pt):Int:=OG a b v+(if a=v/\Es v b u then 1 else 0)-if b=v/\Es v a u then 1 else 0
def jX(v u a b:Pt):Int:=OG a b v-(if a=v/\Es v u b then 1 else 0)+if b=v/\Es v u a then 1 else 0
def MX(p:Pl)(z:Int->Int)(v u:Pt):Int:=Dj p z<|RX v u
def Qi(p:Pl)(z:Int->Int)(v u:Pt):Int:=Dj p z<|jX v u
theorem agj(v u a b:Pt):RX v u b a=-RX v u a b:=by unfold RX;rw[ac3];omega
theorem aqJ(v u a b:Pt):jX v u b a=-jX v u a b:=by unfold jX;rw[ac3];omega
def zD(z:Int->Int)(d:Int):Int:=if 0<d then z d else-z (-d)
def VN(φ:Pt->Int)(v a b:Pt):Int:=(if a=v then φ b else 0)-if b=v then φ a else 0
def ind(P:Prop)[Decidable P]:Int:=if P then 1 else 0
theorem aqK(v u w a b:Pt):jX v u a b-RX v w a b=-VN (λx=>ind (Es v u x)+ind (Es v x w)) v a b:=by unfold jX RX VN ind;by_cases h1:a=v<;>by_cases h2:b=v<;>simp only[h1,h2,true_and,false_and,if_true,if_false]<;>omega
theorem aA4(p:Pl)(z:Int->Int)(v u w:Pt):Qi p z v u-MX p z v w=-Dj p z (VN (λx=>ind (Es v u x)+ind (Es v x w)) v):=by unfold Qi MX;rw[<-agf,<-ahS];refine aA2 λa _ k _=>aqK _ _ _ _ _
section
variable{p:Pl}(h:Valid p)
include h
theorem Valid.agk{z:Int->Int}(hz:G8 p z){c:Ar}(K:c∈p.AP){m:Nat}(hm:m+1<(AV p c).length){s t:Pt}(M:s=(AV p c).getD m AY/\t=(AV p c).getD (m+1) AY\/t=(AV p c).getD m AY/\s=(AV p c).getD (m+1) AY)(o:F s<F t):MX p z s t=Qi p z t s:=by
 have hd:MX p z s t-Qi p z t s=Dj p z λa b=>zu s t b-zu s t a:=by
  unfold Qi MX;rw[<-agf];refine aA2 λa C k hk=>?_;have T:=h.DW C (k:=k) I;have U:=h.DW C (k:=k+1) hk;have n1:=h.DW K (k:=m) I;have n2:=h.DW K (k:=m+1) hm;have hne:=(h.distinct C hk).1;have NM:=λh1 h2 h3 j=>h.acA C K hk hm h1 h2 h3 j;generalize(AV p a).getD k AY=x at*;generalize(AV p a).getD (k+1) AY=y at*;generalize(AV p c).getD m AY=e at*;generalize(AV p c).getD (m+1) AY=f at*;have ns:Bl s=true:=by rcases M with⟨rfl,-⟩|⟨-,rfl⟩<;>assumption
  have nt:Bl t=true:=by rcases M with⟨-,rfl⟩|⟨rfl,-⟩<;>assumption
  have zG:x≠s->x≠t->y≠s->y≠t->Ns x y s t:=λh1 h2 h3 j=>by
   rcases M with⟨rfl,rfl⟩|⟨rfl,rfl⟩;.exact NM h1 h2 h3 j
   exact(NM h2 h1 j h3).comm.flip.comm
  rcases JR (F x)<|F y with h1|h1|h1;.have:=ahP T U ns nt h1 o zG;unfold RX jX;omega
  .exact absurd (ML T U h1) hne
  have:=ahP U T ns nt h1 o λh1 h2 h3 j=>(zG h3 j h1 h2).flip;have e1:=agj s t x y;have e2:=aqJ t s x y;unfold RX at e1⊢;unfold jX at e2⊢;omega
 rw[h.su hz]at hd;omega
theorem Valid.acC{a:Ar}(s:a∈p.AP){j:Nat}(h0:0<j)(hj:j+1<(AV p a).length){b:Ar}(hb:b∈p.AP){k:Nat}(hk:k<(AV p b).length)(e:(AV p b).getD k AY=(AV p a).getD j AY):b=a/\k=j:=by
 have M:=En p a;have T:=En p b;obtain⟨i,rfl⟩:∃i,j=i+1:=⟨j-1,I⟩;have hi:i<a.via.length:=I;rw[gu p a i hi]at e;have U:k≠0:=by rintro rfl;obtain⟨n,hn,-,z⟩:=h.sound.Yi hb;rw[WV,z]at e;exact h.aEi s hi hn e.symm
 have hk1:k≠(AV p b).length-1:=by rintro rfl;obtain⟨n,hn,-,z⟩:=h.sound.Zt hb;rw[WX,z]at e;exact h.aEi s hi hn e.symm
 obtain⟨l,rfl⟩:∃l,k=l+1:=⟨k-1,I⟩;have o:l<b.via.length:=I;rw[gu p b l o]at e;by_cases hab:b=a
 .subst hab;refine⟨rfl,?_⟩;rcases Om l i with h1|h1|h1;.exact absurd e<|h.abz hb h1 hi
  .omega
  exact absurd e.symm<|h.abz hb h1 o
 exfalso;have c:=h.ahD;obtain⟨x,C,rfl⟩:=Dy.1 s;obtain⟨y,K,rfl⟩:=Dy.1 hb;rw[FT]at c;rcases Om x y with h1|h1|h1;.exact c x y C K h1 _ (BG hi) _ (BG o) e.symm
 .subst h1;exact hab rfl
 exact c y x K C h1 _ (BG o) _ (BG hi) e
theorem Valid.agl{n m:Nd}(hn:n∈p.nodes)(hm:m∈p.nodes)(e:n.pt=m.pt):n=m:=by
 have c:=(aou _).1 h.dup;rw[H9,FT]at c;obtain⟨i,hi,rfl⟩:=Dy.1 hn;obtain⟨j,o,rfl⟩:=Dy.1 hm;rcases Om i j with h1|h1|h1;.exact absurd e<|c i j hi o h1
 .subst h1;rfl
 exact absurd e.symm<|c j i o hi h1
theorem Valid.aEp{n:Nd}(hn:n∈p.nodes){b:Ar}(hb:b∈p.AP){k:Nat}(hk:k<(AV p b).length)(e:(AV p b).getD k AY=n.pt):k=0/\b.fr=n.id\/k=(AV p b).length-1/\b.dst=n.id:=by
 have s:=En p b;by_cases hk0:k=0;.subst hk0;obtain⟨m,hm,c,j⟩:=h.sound.Yi hb;rw[WV,j]at e;left;exact⟨rfl,by rw[<-c,h.agl hm hn e]⟩
 by_cases hk1:k=(AV p b).length-1;.subst hk1;obtain⟨m,hm,c,j⟩:=h.sound.Zt hb;rw[WX,j]at e;right;exact⟨rfl,by rw[<-c,h.agl hm hn e]⟩
 exfalso;obtain⟨l,rfl⟩:∃l,k=l+1:=⟨k-1,I⟩;have o:l<b.via.length:=I;rw[gu p b l o]at e;exact h.aEi hb o hn e
theorem Valid.aEq(z:Int->Int)(φ:Pt->Int){a:Ar}(o:a∈p.AP){j:Nat}(h0:0<j)(s:j+1<(AV p a).length):Dj p z (VN φ<|(AV p a).getD j AY)=z a.id*(φ ((AV p a).getD (j+1) AY)-φ ((AV p a).getD (j-1) AY)):=by
 have C:∀b∈p.AP,Ji (VN φ<|(AV p a).getD j AY) (AV p b)=if b=a then φ ((AV p a).getD (j+1) AY)-φ ((AV p a).getD (j-1) AY)else 0:=by
  intro b hb;unfold Ji VN;simp only[aCY];rw[RV,TY];rw[aA1 _ j _ λk hk c=>AX λe=>c (h.acC o h0 s hb I e).2];rw[aA1 _ (j-1) _ λk hk c=>AX λe=>c<|by have:=(h.acC o h0 s hb I e).2;omega];by_cases hab:b=a;.subst hab;rw[AZ rfl,AZ I,AZ I,AZ rfl,show j-1+1=j by omega,AZ rfl]
  rw[AX hab];have K:∀k,k<(AV p b).length->¬(AV p b).getD k AY=(AV p a).getD j AY:=λk hk e=>hab (h.acC o h0 s hb hk e).1;by_cases h1:j<(AV p b).length-1;.rw[AZ h1,AX<|K j I,AZ I,AX<|K (j-1+1) I];rfl
  rw[AX h1];by_cases h2:j-1<(AV p b).length-1;.rw[AZ h2,AX<|K (j-1+1) I];rfl
  rw[AX h2];rfl
 unfold Dj;rw[GK _ _ (λb:Ar=>if a.id=b.id then z b.id*(φ ((AV p a).getD (j+1) AY)-φ ((AV p a).getD (j-1) AY))else 0) λb hb=>by
  rw[C b hb];by_cases hab:b=a;.subst hab;rw[AZ rfl,AZ rfl]
  rw[AX hab,AX λe=>hab<|h.ac0 hb o e.symm,LD]];exact sZ p.AP (·.id) h.sound.AP (λi=>z i*(φ ((AV p a).getD (j+1) AY)-φ ((AV p a).getD (j-1) AY))) a.id ⟨a,o,rfl⟩
theorem Valid.acD(z:Int->Int)(φ:Pt->Int){n:Nd}(hn:n∈p.nodes):Dj p z (VN φ n.pt)=((Dl p.AP n.id).map λd=>zD z d*φ (E8 p d)).sum:=by
 have c:∀b∈p.AP,z b.id*Ji (VN φ n.pt) (AV p b)=(((if b.fr=n.id then[b.id]else[])++if b.dst=n.id then[-b.id]else[]).map λd=>zD z d*φ (E8 p d)).sum:=by
  intro b hb;have j:=En p b;have hid:=h.IB hb;have C:=h.find hb;have K:E8 p b.id=(AV p b).getD 1 AY:=h.mQ hb;have M:E8 p (-b.id)=(AV p b).getD b.via.length AY:=h.gy hb;have T:zD z b.id=z b.id:=by unfold zD;rw[AZ I]
  have U:zD z (-b.id)=-z b.id:=by unfold zD;rw[AX I,QF]
  have hs:Ji (VN φ n.pt) (AV p b)=(if b.fr=n.id then φ<|(AV p b).getD 1 AY else 0)-if b.dst=n.id then φ<|(AV p b).getD b.via.length AY else 0:=by
   have f1:(AV p b).getD 0 AY=n.pt↔b.fr=n.id:=by
    constructor
    .intro e;rcases h.aEp hn hb I e with⟨-,e⟩|⟨e,-⟩;.exact e
     omega
    intro e;rw[WV,e];exact h.sound.RQ hn
   have f2:(AV p b).getD (b.via.length+1) AY=n.pt↔b.dst=n.id:=by
    have s:=WX p b;rw[j,show b.via.length+2-1=b.via.length+1 by omega]at s;constructor
    .intro e;rcases h.aEp hn hb I e with⟨e,-⟩|⟨-,e⟩;.omega
     exact e
    intro e;rw[s,e];exact h.sound.RQ hn
   unfold Ji VN;simp only[aCY];rw[RV,TY];rw[aA1 _ 0 _ λk hk o=>AX λe=>by rcases h.aEp hn hb I e with⟨e,-⟩|⟨e,-⟩<;>omega];rw[aA1 _ b.via.length _ λk hk o=>AX λe=>by rcases h.aEp hn hb I e with⟨e,-⟩|⟨e,-⟩<;>omega];rw[AZ<|show 0<(AV p b).length-1 by omega,AZ<|show b.via.length<(AV p b).length-1 by omega];simp only[f1,f2]
  rw[hs,Gt,PX];by_cases c1:b.fr=n.id<;>by_cases c2:b.dst=n.id<;>simp only[c1,c2,if_true,if_false,FB,Ri,H8,aP,K,M,T,U]<;>grind
 unfold Dj Dl;rw[GK _ _ _ c];generalize p.AP=l;induction l with|nil=>rfl|cons b l ih=>rw[FB,H8,LC,ih];simp only[Gt,PX]
theorem Valid.agm{z:Int->Int}(j:G8 p z){n:Nd}(hn:n∈p.nodes):((Dl p.AP n.id).map λd=>zD z d).sum=0:=by
 have h1:=j n hn;have e:((Dl p.AP n.id).map λd=>zD z d).sum=-(p.AP.map λa=>z a.id*((if a.dst=n.id then 1 else 0)-if a.fr=n.id then 1 else 0)).sum:=by have hid:∀b∈p.AP,1<=b.id:=λb hb=>(h.IB hb).1;unfold Dl;generalize p.AP=l at hid;induction l with|nil=>rfl|cons b l o=>
   have:=hid b Ak;have s:zD z b.id=z b.id:=by unfold zD;rw[AZ I]
   have C:zD z (-b.id)=-z b.id:=by unfold zD;rw[AX I,QF]
   rw[FB,H8,LC,Gt,PX,o λc K=>hid c<|by simp[K]];by_cases c1:b.fr=n.id<;>by_cases c2:b.dst=n.id<;>simp only[c1,c2,if_true,if_false,Gt,PX,FB,Ri,H8,aP,s,C]<;>grind
 rw[e,h1];rfl
end
theorem aqL{l:List Int}(j:l.Nodup){d:Int}(hd:d∈l)(c:Int->Int):(l.map λx=>if x=d then c x else 0).sum=c d:=by induction l with|nil=>cases hd|cons a l o=>
  rw[lD]at j;rw[FB,H8];rcases Dv.1 hd with rfl|hd;.rw[AZ rfl,Uu l _ λx s=>AX<|by rintro rfl;exact j.1 s];omega
  .rw[AX<|by rintro rfl;exact j.1 hd,o j.2 hd];omega
theorem aqM(z:Int->Int){d:Int}(h:d≠0):zD z (-d)=-zD z d:=by
 unfold zD;by_cases h1:0<d;.rw[AX I,AZ h1,QF]
 rw[AZ I,AX h1,QF]
theorem bF(o a:Pt):ind (Es o a a)=0:=AX<|aqI o a
theorem acE{o a b:Pt}(h:Es o a b\/Es o b a):ind (Es o a b)+ind (Es o b a)=1:=by
 unfold ind;rcases h with h|h;.rw[AZ h,AX<|mg h];rfl
 rw[AX<|mg h,AZ h];rfl
section
variable{p:Pl}(h:Valid p)
include h
theorem Valid.acF{a:Ar}(j:a∈p.AP){k:Nat}(hk:k+2<(AV p a).length):Es ((AV p a).getD (k+1) AY) ((AV p a).getD k AY) ((AV p a).getD (k+2) AY)\/Es ((AV p a).getD (k+1) AY) ((AV p a).getD (k+2) AY) ((AV p a).getD k AY):=by have z:=(h.distinct j (k:=k) I).1;have C:=(h.distinct j (k:=k+1) I).1;have K:=h.DW j (k:=k) I;have M:=h.DW j (k:=k+1) I;have T:=h.DW j (k:=k+2) I;have c:=h.UN.2.1 a j k (k+1) I I;unfold UZ at c;rw[AZ<|.inl rfl]at c;unfold Df at c;simp only[beq_iff_eq]at c;generalize(AV p a).getD k AY=u at*;generalize(AV p a).getD (k+1) AY=o at*;rw[show k+1+1=k+2 by omega]at*;generalize(AV p a).getD (k+2) AY=v at*;apply Iq;intro s;obtain⟨-,U,-⟩:=ahE M K T z (λe=>C e.symm) (λe=>s<|.inl e) λe=>s<|.inr e;rw[U]at c;exact absurd c BI
theorem Valid.aqN(z:Int->Int){a:Ar}(c:a∈p.AP){k:Nat}(hk:k+2<(AV p a).length):Qi p z ((AV p a).getD (k+1) AY) ((AV p a).getD (k+2) AY)-MX p z ((AV p a).getD (k+1) AY) ((AV p a).getD (k+2) AY)=z a.id:=by rw[aA4,h.aEq z _ c (j:=k+1) I hk,show k+1-1=k by omega,show k+1+1=k+2 by omega,bF,acE (h.acF c hk).symm];grind
theorem Valid.agn(z:Int->Int){a:Ar}(c:a∈p.AP){k:Nat}(hk:k+2<(AV p a).length):Qi p z ((AV p a).getD (k+1) AY) ((AV p a).getD k AY)-MX p z ((AV p a).getD (k+1) AY) ((AV p a).getD k AY)=-z a.id:=by rw[aA4,h.aEq z _ c (j:=k+1) I hk,show k+1-1=k by omega,show k+1+1=k+2 by omega,bF,acE<|h.acF c hk];grind
theorem Valid.aqO(z:Int->Int){a:Ar}(c:a∈p.AP){k:Nat}(hk:k+2<(AV p a).length):Qi p z ((AV p a).getD (k+1) AY) ((AV p a).getD k AY)=MX p z ((AV p a).getD (k+1) AY) ((AV p a).getD (k+2) AY):=by have e:=aA4 p z ((AV p a).getD (k+1) AY) ((AV p a).getD k AY)<|(AV p a).getD (k+2) AY;rw[h.aEq z _ c (j:=k+1) I hk,show k+1-1=k by omega,show k+1+1=k+2 by omega,bF,bF,lG,Int.zero_add,aCZ,LD]at e;omega
theorem Valid.tC{z:Int->Int}(c:G8 p z){n:Nd}(hn:n∈p.nodes){d:Int}(hd:d∈Dl p.AP n.id):Qi p z n.pt (E8 p d)-MX p z n.pt (E8 p d)=zD z d:=by
 rw[aA4,h.acD z _ hn];have h0:=h.agm c hn;have h1:=aqL (h.ac6 (n:=n.id)) hd λx=>zD z x;have e:((Dl p.AP n.id).map λx=>zD z x*(ind (Es n.pt (E8 p d)<|E8 p x)+ind (Es n.pt (E8 p x)<|E8 p d))).sum=((Dl p.AP n.id).map λx=>zD z x+-if x=d then zD z x else 0).sum:=by
  refine GK _ _ _ λx j=>?_;by_cases hxd:x=d;.subst hxd;rw[bF,AZ rfl];omega
  rw[acE<|h.dirs hn hd j<|λe=>hxd e.symm,AX hxd];omega
 rw[e,RV,TY,h0,h1];omega
theorem Valid.agp{n:Nd}(hn:n∈p.nodes){i j:Nat}(o:i<j)(z:j<(DL p n.id).length):Es n.pt (E8 p<|(DL p n.id)[i]'(by omega))<|E8 p (DL p n.id)[j]:=by
 have c:∀{x:Int},x∈DL p n.id->x∈Dl p.AP n.id:=λU=>(h.OI hn).subset U;have K:=(mW<|h.aA0 hn).2;rw[<-h.aEk hn,FT]at K;have h1:=K i j I z o;have C:(DL p n.id)[i]≠(DL p n.id)[j]:=λe=>by have s:=h.jW hn;rw[aDn,FT]at s;exact s i j I z o e
 have M:=c<|BG (show i<(DL p n.id).length by omega);have T:=c<|BG z;rcases h.dirs hn M T C with h2|h2;.exact h2
 exfalso;obtain⟨n0,n1,x1⟩:=h.mV hn M;obtain⟨-,n2,x2⟩:=h.mV hn T;unfold ltD at h1;rw[(aap _ _ _).2 ⟨by simp[ES,n0,n1,n2],x2,x1,h2⟩]at h1;cases h1
theorem Valid.aqP{z:Int->Int}(hz:G8 p z){n:Nd}(hn:n∈p.nodes){d:Int}(hd:d∈DL p n.id):Qi p z n.pt (E8 p<|precD (DL p n.id) d)=MX p z n.pt (E8 p d):=by
 have M:=h.jW hn;have U:=h.OI hn;have C:=λ{i j:Nat}=>h.agp hn (i:=i) (j:=j);have e:=aA4 p z n.pt (E8 p<|precD (DL p n.id) d)<|E8 p d;rw[h.acD z _ hn]at e;have h0:=h.agm hz hn;obtain⟨i,hi,rfl⟩:=Dy.1 hd;rw[mX M hi]at e⊢;have o:∀i j(hi:i<(DL p n.id).length)(s:j<(DL p n.id).length),ind (Es n.pt (E8 p (DL p n.id)[i])<|E8 p (DL p n.id)[j])=if i<j then 1 else 0:=by
  intro i j hi s;rcases Om i j with h1|h1|h1;.rw[AZ h1];exact AZ<|C h1 s
  .subst h1;rw[AX I];exact bF _ _
  rw[AX I];exact AX<|mg<|C h1 hi
 have T:∃c:Int,∀x∈Dl p.AP n.id,ind (Es n.pt (E8 p<|(DL p n.id)[(i+(DL p n.id).length-1)%(DL p n.id).length]'(V7 _ I))<|E8 p x)+ind (Es n.pt (E8 p x)<|E8 p (DL p n.id)[i])=c:=by
  by_cases h1:i=0
  .refine⟨0,λx K=>?_⟩;obtain⟨j,s,rfl⟩:=Dy.1<|U.symm.subset K;have hm:(i+(DL p n.id).length-1)%(DL p n.id).length=(DL p n.id).length-1:=by rw[h1];rw[Rk];exact ZC I
   rw[o _ _ (V7 _ I) s,o j i s hi,AX I,AX I];rfl
  refine⟨1,λx K=>?_⟩;obtain⟨j,s,rfl⟩:=Dy.1<|U.symm.subset K;have hm:(i+(DL p n.id).length-1)%(DL p n.id).length=i-1:=by rw[show i+(DL p n.id).length-1=i-1+(DL p n.id).length by omega,aCX];exact ZC I
  rw[o _ _ (V7 _ I) s,o j i s hi];by_cases h2:j<i;.rw[AX I,AZ h2];rfl
  rw[AZ I,AX h2];rfl
 obtain⟨c,T⟩:=T;rw[GK _ _ (λx=>c*zD z x) λx K=>by rw[T x K,KT],Zz,h0,LD]at e;omega
theorem Valid.acG{z:Int->Int}(j:G8 p z){a:Ar}(c:a∈p.AP){m:Nat}(hm:m+1<(AV p a).length):MX p z ((AV p a).getD m AY) ((AV p a).getD (m+1) AY)=Qi p z ((AV p a).getD (m+1) AY) ((AV p a).getD m AY):=by
 have T:=En p a;have hid:=(h.IB c).1;have o:=(h.distinct c hm).1;have K:=h.DW c (k:=m) I;have M:=h.DW c (k:=m+1) hm;have U:Qi p z ((AV p a).getD m AY) ((AV p a).getD (m+1) AY)-MX p z ((AV p a).getD m AY) ((AV p a).getD (m+1) AY)=z a.id:=by
  by_cases h0:m=0;.subst h0;obtain⟨n,hn,s,C⟩:=h.sound.Yi c;have:=h.tC j hn (d:=a.id)<|TV.2 ⟨a,c,.inl ⟨rfl,s.symm⟩⟩;rw[h.mQ c]at this;rw[WV,C,this];unfold zD;rw[AZ I]
  obtain⟨k,rfl⟩:∃k,m=k+1:=⟨m-1,I⟩;exact h.aqN z c hm
 have j2:Qi p z ((AV p a).getD (m+1) AY) ((AV p a).getD m AY)-MX p z ((AV p a).getD (m+1) AY) ((AV p a).getD m AY)=-z a.id:=by
  by_cases h0:m+1=(AV p a).length-1;.obtain⟨n,hn,s,C⟩:=h.sound.Zt c;have:=h.tC j hn (d:=-a.id)<|TV.2 ⟨a,c,.inr ⟨rfl,s.symm⟩⟩;rw[h.gy c,show a.via.length=m by omega]at this;rw[h0,WX,C,this];unfold zD;rw[AX I,QF]
  exact h.agn z c I
 rcases JR (F<|(AV p a).getD m AY)<|F<|(AV p a).getD (m+1) AY with h1|h1|h1;.exact h.agk j c hm (.inl ⟨rfl,rfl⟩) h1
 .exact absurd (ML K M h1) o
 have:=h.agk j c hm (.inr ⟨rfl,rfl⟩) h1;omega
theorem Valid.aEs{z:Int->Int}(j:G8 p z){a:Ar}(c:a∈p.AP):∀(m:Nat),m+1<(AV p a).length->MX p z ((AV p a).getD 0 AY) ((AV p a).getD 1 AY)=Qi p z ((AV p a).getD (m+1) AY) ((AV p a).getD m AY)|0,hm=>h.acG j c hm|m+1,hm=>by rw[Valid.aEs j c m I,h.aqO z c (k:=m) I];exact h.acG j c (m:=m+1) hm
end
def Hz(p:Pl)(z:Int->Int)(d:Int):Int:=Qi p z (nodeAt p<|Jh p d)<|E8 p d
section
variable{p:Pl}(h:Valid p)
include h
theorem Valid.VO{z:Int->Int}(j:G8 p z){a:Ar}(c:a∈p.AP):Hz p z a.id-Hz p z (-a.id)=z a.id:=by
 have o:=En p a;have hid:=(h.IB c).1;have h1:=h.aEs j c a.via.length I;have h2:(AV p a).getD (a.via.length+1) AY=nodeAt p a.dst:=by have:=WX p a;rwa[o,show a.via.length+2-1=a.via.length+1 by omega]at this
 unfold Hz;rw[h.aEj c,h.zk c,h.mQ c,h.gy c];rw[h2,WV]at h1;obtain⟨n,hn,s,C⟩:=h.sound.Yi c;have:=h.tC j hn (d:=a.id)<|TV.2 ⟨a,c,.inl ⟨rfl,s.symm⟩⟩;rw[h.mQ c,<-C]at this;unfold zD at this;rw[AZ I]at this;omega
theorem Valid.aqQ{d:Int}(hd:d∈BZ p):d≠0:=by obtain⟨a,c,e⟩:=Ij.1 hd;have:=h.IB c;omega
theorem Valid.agq{z:Int->Int}(j:G8 p z){d:Int}(hd:d∈BZ p):Hz p z d-Hz p z (-d)=zD z d:=by
 obtain⟨a,c,e⟩:=Ij.1 hd;have hid:=(h.IB c).1;have:=h.VO j c;rcases e with rfl|rfl;.rw[this];unfold zD;rw[AZ I]
 rw[QF];unfold zD;rw[AX I,QF];omega
theorem Valid.aqR{z:Int->Int}(c:G8 p z){d:Int}(hd:d∈BZ p):Hz p z (FU p d)=Hz p z d:=by
 obtain⟨n,hn,s,hm,C⟩:=h.sW hd;have K:=(h.SH hd).2;have j:=h.tC c hn<|(h.OI hn).subset hm;have t:=h.aqP c hn hm;have k:=h.agq c hd;have o:nodeAt p (Jh p<|-d)=n.pt:=by rw[<-s];exact h.sound.RQ hn
 have M:=aqM z<|h.aqQ hd;unfold Hz at k⊢;rw[K,o,C,t];rw[o]at k;omega
end
set_option linter.unusedSectionVars false
def mrg(r:Int->Int)(a b x:Int):Int:=if r x=r a then r b else r x
structure acH(U:List Int)(r:Int->Int):Prop where
 mem:∀x∈U,r x∈U
 idem:∀x∈U,r (r x)=r x
theorem acH.mrg{U:List Int}{r:Int->Int}(h:acH U r){a b:Int}(hb:b∈U):acH U<|mrg r a b:=by
 constructor
 .intro x c;unfold Go.Proofs.YtngoejdlompfoaaGreat.mrg;split;.exact h.mem b hb
  exact h.mem x c
 intro x c;unfold Go.Proofs.YtngoejdlompfoaaGreat.mrg;by_cases e:r x=r a;.rw[AZ e,h.idem b hb];split<;>rfl
 rw[AX e,h.idem x c,AX e]
def JY(p:Pl)(k:Nat)(x:Int):Int:=pw (VL p k).1 x<|p.AP.length+1
def RY(p:Pl)(k:Nat)(a:Ar):Prop:=JY p k a.fr≠JY p k a.dst
instance(p:Pl)(k:Nat)(a:Ar):Decidable<|RY p k a:=by unfold RY;infer_instance
def nC(p:Pl):List Int:=p.nodes.map (·.id)
section
variable{p:Pl}(h:Valid p)
include h
theorem Valid.agr{a:Ar}(c:a∈p.AP):a.fr∈nC p/\a.dst∈nC p:=by obtain⟨j,h1,o,-⟩:=h.sound.Yi c;obtain⟨s,h2,z,-⟩:=h.sound.Zt c;exact⟨EP.2 ⟨j,h1,o⟩,EP.2 ⟨s,h2,z⟩⟩
theorem Valid.aEt{k:Nat}(hk:k<p.AP.length):(JY p (k+1)=if RY p k p.AP[k]then mrg (JY p k) p.AP[k].fr p.AP[k].dst else JY p k)/\(VL p<|k+1).2=(VL p k).2-if RY p k p.AP[k]then 1 else 0:=by
 have ho:=apJ h k I;by_cases ht:RY p k p.AP[k];.rw[AZ ht,AZ ht];unfold RY JY at ht;unfold JY;rw[ac2 p k hk];unfold zo;rw[AX ht];refine⟨?_,rfl⟩;have c:∀x,(VL p k).1 (pw (VL p k).1 x<|p.AP.length+1)=pw (VL p k).1 x (p.AP.length+1):=ho.flat.more I;obtain⟨h1,h2⟩:=ahI ho.flat (c p.AP[k].fr) (c p.AP[k].dst) ht;funext x;show pw (NK _ _ _) x (p.AP.length+1)=mrg _ _ _ x;rw[h1.eq (M:=p.AP.length+1) I,h2 x];unfold mrg;simp only;rw[<-ho.flat.eq (M:=p.AP.length+1) I x]
 rw[AX ht,AX ht];unfold RY JY at ht;unfold JY;rw[ac2 p k hk];unfold zo;rw[AZ<|Iq ht];exact⟨rfl,I⟩
theorem Valid.aEu{x:Int}(c:x∈nC p):JY p 0 x=x:=by
 have h0:VK p.nodes x=x:=AZ c;have:∀n,pw (VK p.nodes) x n=x:=by intro n;induction n with|zero=>rfl|succ n j=>show VK p.nodes (pw (VK p.nodes) x n)=x;rw[j,h0]
 exact this _
theorem Valid.aqS{k j:Nat}(o:k<=j)(z:j<=p.AP.length){x y:Int}(e:JY p k x=JY p k y):JY p j x=JY p j y:=by induction j with|zero=>have:k=0:=I;subst this;exact e|succ j s=>
  by_cases h1:k=j+1;.subst h1;exact e
  .have c:=s I I;rw[(h.aEt (k:=j) I).1];split;.unfold mrg;rw[c]
   exact c
theorem Valid.aqT{k j:Nat}(o:j<k)(hk:k<=p.AP.length):JY p k (p.AP[j]'(by omega)).fr=JY p k (p.AP[j]'(by omega)).dst:=by
 refine h.aqS (k:=j+1) I hk ?_;rw[(h.aEt (k:=j) I).1];split;.unfold mrg;rw[AZ rfl];split<;>rfl
 rename_i c;unfold RY at c;exact Iq c
end
def Uw(p:Pl)(c:Int->Int)(n:Int):Int:=(p.AP.map λa=>c a.id*((if a.dst=n then 1 else 0)-if a.fr=n then 1 else 0)).sum
theorem aEv(p:Pl)(c d:Int->Int)(n:Int):Uw p (λi=>c i+d i) n=Uw p c n+Uw p d n:=by unfold Uw;rw[<-RV];exact GK _ _ _ λa _=>by rw[aCS]
theorem aqU(p:Pl)(c:Int->Int)(n:Int):Uw p (λi=>-c i) n=-Uw p c n:=by unfold Uw;rw[<-TY];exact GK _ _ _ λa _=>by rw[PY]
def jY(a:Ar)(i:Int):Int:=if i=a.id then 1 else 0
def bH(p:Pl)(k:Nat)(c:Int->Int):Prop:=∀j(hj:j<p.AP.length),c p.AP[j].id≠0->j<k/\RY p j p.AP[j]
section
variable{p:Pl}(h:Valid p)
include h
theorem Valid.aqV{a:Ar}(c:a∈p.AP)(n:Int):Uw p (jY a) n=(if a.dst=n then 1 else 0)-if a.fr=n then 1 else 0:=by
 unfold Uw jY;have:=sZ p.AP (·.id) h.sound.AP (λ_=>(if a.dst=n then(1:Int)else 0)-if a.fr=n then 1 else 0) a.id ⟨a,c,rfl⟩;rw[<-this];refine GK _ _ _ λb hb=>?_;by_cases e:a.id=b.id;.have:=h.ac0 c hb e;subst this;rw[AZ rfl,AZ rfl];omega
 rw[AX λj=>e j.symm,AX e];omega
theorem Valid.chain(k:Nat)(hk:k<=p.AP.length):∀x∈nC p,∀y∈nC p,JY p k x=JY p k y->∃c,bH p k c/\∀n,Uw p c n=(if y=n then 1 else 0)-if x=n then 1 else 0:=by induction k with|zero=>intro x M y T e;rw[h.aEu M,h.aEu T]at e;subst e;refine⟨λ_=>0,λj C h0=>absurd rfl h0,λn=>?_⟩;unfold Uw;rw[Uu _ _ λa _=>JQ _];omega|succ k K=>
  intro x M y T e;have K:=K I;have s:∀{c},bH p k c->bH p (k+1) c:=λo j C h0=>⟨by have:=(o j C h0).1;omega,(o j C h0).2⟩;rw[(h.aEt (k:=k) I).1]at e;by_cases ht:RY p k p.AP[k]
  .rw[AZ ht]at e;have ha:=BG (show k<p.AP.length by omega);have hm:=h.agr ha;have h1:=h.aqV ha;have hs1:bH p (k+1)<|jY p.AP[k]:=λj C h0=>by
    unfold jY at h0;split at h0
    .rename_i e2;have h2:j=k:=by
      have U:=h.sound.AP;rw[H9,FT]at U;rcases Om j k with h3|h3|h3;.have:=U j k C I h3;omega
      .exact h3
      have:=U k j I C h3;omega
     subst h2;exact⟨I,ht⟩
    exact absurd rfl h0
   have z:∀{c d:Int->Int},bH p (k+1) c->bH p (k+1) d->bH p (k+1) λi=>c i+d i:=by
    intro c d o hd j C h0;by_cases h2:c p.AP[j].id=0;.exact hd j C λe=>h0<|by show _+_=(0:Int);rw[h2,e];rfl
    exact o j C h2
   have hneg:∀{c},bH p (k+1) c->bH p (k+1) λi=>-c i:=λo j C h0=>o j C λe=>h0 (by show-_=(0:Int);rw[e];rfl);unfold mrg at e;by_cases ex:JY p k x=JY p k p.AP[k].fr<;>by_cases ey:JY p k y=JY p k p.AP[k].fr;.obtain⟨c,o,hb⟩:=K x M y T<|ex.trans ey.symm;exact⟨c,s o,hb⟩
   .rw[AZ ex,AX ey]at e;obtain⟨c,o,hb⟩:=K x M _ hm.1 ex;obtain⟨d,hd,hb2⟩:=K _ hm.2 y T e;refine⟨λi=>c i+jY p.AP[k] i+d i,z (z (s o) hs1)<|s hd,λn=>?_⟩;rw[aEv p λi=>c i+jY p.AP[k] i,aEv,hb,hb2,h1];omega
   .rw[AX ex,AZ ey]at e;obtain⟨c,o,hb⟩:=K x M _ hm.2 e;obtain⟨d,hd,hb2⟩:=K _ hm.1 y T ey.symm;refine⟨λi=>c i+-jY p.AP[k] i+d i,z (z (s o)<|hneg hs1)<|s hd,λn=>?_⟩;rw[aEv p λi=>c i+-jY p.AP[k] i,aEv,aqU,hb,hb2,h1];omega
   rw[AX ex,AX ey]at e;obtain⟨c,o,hb⟩:=K x M y T e;exact⟨c,s o,hb⟩
  .rw[AX ht]at e;obtain⟨c,o,hb⟩:=K x M y T e;exact⟨c,s o,hb⟩
theorem Valid.ags{g:Int->Int}(z:G8 p g)(h0:∀j(c:j<p.AP.length),¬RY p j p.AP[j]->g p.AP[j].id=0):∀(k:Nat),k<=p.AP.length->(∀j(c:j<p.AP.length),k<=j->g p.AP[j].id=0)->∀j(c:j<p.AP.length),g p.AP[j].id=0
 |0,_,hz,j,c=>hz j c I|k+1,hk,hz,j,c=>by
  refine Valid.ags z h0 k I (λj c C=>?_) j c;by_cases hjk:j=k
  .subst hjk;by_cases ht:RY p j p.AP[j]
   .have K:=h.agh z λx=>if JY p j x=JY p j p.AP[j].fr then 1 else 0;have e:(p.AP.map λa=>g a.id*((if JY p j a.dst=JY p j p.AP[j].fr then(1:Int)else 0)-if JY p j a.fr=JY p j p.AP[j].fr then 1 else 0)).sum=(p.AP.map λa=>if p.AP[j].id=a.id then-g a.id else 0).sum:=by
     refine GK _ _ _ λa M=>?_;obtain⟨i,hi,rfl⟩:=Dy.1 M;rcases Om i j with h3|h3|h3
     .have s:¬p.AP[j].id=p.AP[i].id:=λe=>by have o:=h.sound.AP;rw[H9,FT]at o;have:=o i j hi c h3;omega
      rw[AX s,h.aqT h3 I,aCZ,LD]
     .subst h3;rw[AZ rfl,AZ rfl];unfold RY at ht;rw[AX λe=>ht e.symm];omega
     have s:¬p.AP[j].id=p.AP[i].id:=λe=>by have o:=h.sound.AP;rw[H9,FT]at o;have:=o j i c hi h3;omega
     rw[AX s,hz i hi I,JQ]
    rw[e,sZ p.AP (·.id) h.sound.AP (λi=>-g i) p.AP[j].id ⟨_,BG c,rfl⟩]at K;omega
   exact h0 j c ht
  exact hz j c I
end
set_option linter.unusedSectionVars false
def bI(L:List<|List Int)(d:Int):Int:=match L.find? λc=>decide<|d∈c with|some c=>c.headD 0|none=>d
def BU(p:Pl):Nat->Int->Int|0=>bI<|CV p|k+1=>match p.AP[k]? with|some a=>if RY p k a then BU p k else mrg (BU p k) a.id<|-a.id|none=>BU p k
theorem abU{p:Pl}{k:Nat}(hk:k<p.AP.length):BU p (k+1)=if RY p k p.AP[k]then BU p k else mrg (BU p k) p.AP[k].id<|-p.AP[k].id:=by rw[BU,DK hk]
section
variable{p:Pl}(h:Valid p)
include h
theorem Valid.lQ{c z:List Int}(M:c∈CV p)(C:z∈CV p){y:Int}(h1:y∈c)(h2:y∈z):c=z:=by
 have s:=h.Ik.nodup;rw[aDn,List.pairwise_flatten]at s;have o:=s.2;rw[FT]at o;obtain⟨i,hi,rfl⟩:=Dy.1 M;obtain⟨j,K,rfl⟩:=Dy.1 C;rcases Om i j with h3|h3|h3;.exact absurd rfl<|o i j hi K h3 _ h1 _ h2
 .subst h3;rfl
 exact absurd rfl<|o j i K hi h3 _ h2 _ h1
theorem Valid.Tc{c:List Int}(s:c∈CV p):∃x∈BZ p,c=Jz (FU p) (BZ p) x/\c.headD 0=x/\x∈c:=by obtain⟨x,j,e,-⟩:=h.Ik.rQ c s;have o:=Xt (λx j=>(h.SH j).1) (λx j y z=>h.Zy j z) j;refine⟨x,j,e,?_,by rw[e];exact aey o.1⟩;rw[e];unfold Jz;obtain⟨m,hm⟩:∃m,MS (FU p) (BZ p) x=m+1:=⟨MS (FU p) (BZ p) x-1,by have:=o.1;omega⟩;rw[hm];rfl
theorem Valid.tH{d:Int}(hd:d∈BZ p):∃c∈CV p,d∈c/\bI (CV p) d=c.headD 0:=by obtain⟨c,s,j⟩:=aCU.1<|h.Ik.covers d hd;unfold bI;cases o:(CV p).find? λc=>decide<|d∈c with|none=>have:=List.find?_eq_none.1 o c s;simp[j]at this|some z=>have h1:=List.find?_some o;exact⟨z,Vz o,by simpa using h1,rfl⟩
theorem Valid.head_eq{c:List Int}(o:c∈CV p){d:Int}(hd:d∈BZ p)(j:d∈c):bI (CV p) d=c.headD 0:=by obtain⟨s,h1,h2,h3⟩:=h.tH hd;rw[h3,h.lQ h1 o h2 j]
theorem Valid.aqW{d:Int}(hd:d∈BZ p):bI (CV p) (FU p d)=bI (CV p) d:=by obtain⟨c,h1,h2,h3⟩:=h.tH hd;obtain⟨x,j,e,-⟩:=h.Tc h1;rw[h3];refine h.head_eq h1 (h.SH hd).1 ?_;rw[e]at h2⊢;exact(ab3 (λx j=>(h.SH j).1) (λx j y o=>h.Zy j o) j hd).2 h2
theorem Valid.aqX{β:Type}(H:Int->β)(s:∀d∈BZ p,H (FU p d)=H d){d:Int}(hd:d∈BZ p):H (bI (CV p) d)=H d:=by obtain⟨c,h1,h2,h3⟩:=h.tH hd;obtain⟨x,j,e,o,-⟩:=h.Tc h1;rw[h3,o];rw[e]at h2;obtain⟨k,-,rfl⟩:=Ws.1 h2;clear h1 h2 h3 e o hd;induction k with|zero=>rfl|succ k z=>show H x=H (FU p<|pw (FU p) x k);rw[s _<|Zi (λx j=>(h.SH j).1) j k];exact z
theorem Valid.aqY{k:Nat}(hk:k<p.AP.length):p.AP[k].id∈BZ p/\-p.AP[k].id∈BZ p:=⟨Ij.2 ⟨_,BG hk,.inl rfl⟩,Ij.2 ⟨_,BG hk,.inr rfl⟩⟩
theorem Valid.abV{k j:Nat}(o:k<=j)(z:j<=p.AP.length){x y:Int}(e:BU p k x=BU p k y):BU p j x=BU p j y:=by induction j with|zero=>have:k=0:=I;subst this;exact e|succ j s=>
  by_cases h1:k=j+1;.subst h1;exact e
  .have c:=s I I;rw[abU (k:=j) I];split;.exact c
   unfold mrg;rw[c]
theorem Valid.aqZ{β:Type}(H:Int->β)(s:∀d∈BZ p,H (FU p d)=H d)(k:Nat)(hk:k<=p.AP.length)(h0:∀j(o:j<p.AP.length),j<k->¬RY p j p.AP[j]->H p.AP[j].id=H (-p.AP[j].id)):∀d∈BZ p,H (BU p k d)=H d:=by induction k with|zero=>exactλd hd=>h.aqX H s hd|succ k c=>
  intro d hd;have c:=c I λj o z=>h0 j o I;rw[abU (k:=k) I];split;.exact c d hd
  .rename_i C;have hm:=h.aqY (k:=k) I;unfold mrg;split;.rename_i e;rw[c _ hm.2,<-h0 k I I C,<-c _ hm.1,<-e,c d hd]
   exact c d hd
end
set_option linter.unusedSectionVars false
theorem apw{L:List Int}(c:L.Nodup)(f:Int->Int):(L.map λd=>f<|precD L d).sum=(L.map f).sum:=by
 by_cases h0:L.length=0;.have:L=[]:=qh h0;subst this;rfl
 have e:L.map (precD L)=L[L.length-1]'(by omega)::L.take (L.length-1):=by refine Xf D8 λi h1 h2=>?_;rw[D6]at h1;rw[Ib,mX c h1];cases i with|zero=>rw[List.getElem_cons_zero];congr 1;rw[Rk];exact ZC I|succ i=>rw[List.getElem_cons_succ,List.getElem_take];congr 1;rw[show i+1+L.length-1=i+L.length by omega,aCX];exact ZC I
 have j:L.map f=(L.take<|L.length-1).map f++[f<|L[L.length-1]'(by omega)]:=by
  conv=>lhs;rw[<-gK (L.length-1) L]
  rw[Gt,Ql<|show L.length-1<L.length by omega,aFz I];rfl
 rw[show(L.map λd=>f<|precD L d)=(L.map<|precD L).map f by rw[KP];rfl,e,FB,H8,j,PX];simp only[H8,aP];omega
theorem aEw{l m:List Int}(h:l.Perm m):l.sum=m.sum:=by induction h with|nil=>rfl|cons x _ c=>rw[H8,H8,c]|swap x y l=>simp only[H8];omega|trans _ _ h1 h2=>exact h1.trans h2
section
variable{p:Pl}(h:Valid p)
include h
theorem Valid.apx(z:Int->Int)(n:Int):((Dl p.AP n).map λd=>zD z d).sum=-Uw p z n:=by have hid:∀b∈p.AP,1<=b.id:=λb hb=>(h.IB hb).1;unfold Dl Uw;generalize p.AP=l at hid;induction l with|nil=>rfl|cons b l j=>
  have:=hid b Ak;have o:zD z b.id=z b.id:=by unfold zD;rw[AZ I]
  have s:zD z (-b.id)=-z b.id:=by unfold zD;rw[AX I,QF]
  rw[FB,H8,LC,Gt,PX,j λc C=>hid c<|by simp[C]];by_cases c1:b.fr=n<;>by_cases c2:b.dst=n<;>simp only[c1,c2,if_true,if_false,Gt,PX,FB,Ri,H8,aP,o,s]<;>grind
theorem Valid.agt{n:Nd}(hn:n∈p.nodes){d:Int}(hd:d∈DL p n.id):FU p (-d)=precD (DL p n.id) d/\d∈BZ p/\Jh p d=n.id:=by obtain⟨h1,h2⟩:=h.mY<|(h.OI hn).subset hd;obtain⟨o,j,e,hm,c⟩:=h.sW<|WW h1;rw[QF]at e hm c;exact⟨by rw[c,e,h2],h1,h2⟩
theorem Valid.agu{d:Int}(hd:d∈BZ p):BU p p.AP.length (FU p d)=BU p p.AP.length d:=h.abV (k:=0) (C9 _) (Dh _)<|h.aqW hd
theorem Valid.apy{k:Nat}(hk:k<p.AP.length)(c:¬RY p k p.AP[k]):BU p p.AP.length p.AP[k].id=BU p p.AP.length (-p.AP[k].id):=by refine h.abV (k:=k+1) I (Dh _) ?_;rw[abU hk,AX c];unfold mrg;rw[AZ rfl];split<;>rfl
theorem Valid.apz{k:Nat}(hk:k<p.AP.length):BU p p.AP.length p.AP[k].id=BU p p.AP.length (-p.AP[k].id):=by
 obtain⟨S,hS⟩:=BM<|BU p p.AP.length;have c:=λ{d}(hd:d∈BZ p)=>h.agu hd;have o:=λ{k}(hk:k<p.AP.length)z=>h.apy (k:=k) hk z;rw[hS]at c o⊢;obtain⟨f,s⟩:∃f:Int->Int,f=λd=>if S d=S p.AP[k].id then 1 else 0:=⟨_,rfl⟩;have C:∀d∈BZ p,f (FU p d)=f d:=λd hd=>by rw[s];simp only[c hd]
 have K:G8 p λi=>f i-f (-i):=by
  intro n hn;show Uw p (λi=>f i-f (-i)) n.id=0;have hb:=h.apx (λi=>f i-f (-i)) n.id;have U:=h.OI hn;have e1:((Dl p.AP n.id).map λd=>zD (λi=>f i-f (-i)) d).sum=((DL p n.id).map λd=>f d+-f (precD (DL p n.id) d)).sum:=by
   rw[aEw<|U.symm.map _];refine GK _ _ _ λd hd=>?_;obtain⟨g1,g2,-⟩:=h.agt hn hd;rw[<-g1,C _<|WW g2];unfold zD;by_cases h0:0<d;.rw[AZ h0];show f d-f (-d)=_;omega
   rw[AX h0];show-(f (-d)-f (- -d))=_;rw[QF];omega
  rw[e1,RV,TY,apw (h.jW hn) f]at hb;omega
 have h0:=h.ags K λj T z=>by show f _-f _=0;rw[s];simp only[o T z];omega p.AP.length (Dh _) (λj T hle=>I) k hk;have h1:f p.AP[k].id=1:=by rw[s];exact AZ rfl
 have h2:f (-p.AP[k].id)=1:=by have h0':f p.AP[k].id-f (-p.AP[k].id)=0:=h0;omega
 rw[s]at h2;have M:(if S (-p.AP[k].id)=S p.AP[k].id then(1:Int)else 0)=1:=h2;split at M;.rename_i e;exact e.symm
 omega
theorem Valid.VP{d:Int}(hd:d∈BZ p):BU p p.AP.length (-d)=BU p p.AP.length d:=by
 obtain⟨a,c,e⟩:=Ij.1 hd;obtain⟨k,hk,rfl⟩:=Dy.1 c;have:=h.apz hk;rcases e with rfl|rfl;.exact this.symm
 rw[QF];exact this
theorem Valid.abW{n:Nd}(hn:n∈p.nodes){d e:Int}(hd:d∈DL p n.id)(o:e∈DL p n.id):BU p p.AP.length d=BU p p.AP.length e:=by
 have c:∀i(hi:i<(DL p n.id).length),BU p p.AP.length (DL p n.id)[i]=BU p p.AP.length ((DL p n.id)[0]'(by omega)):=by intro i;induction i with|zero=>intro _;rfl|succ i s=>
   intro hi;rw[<-s I];obtain⟨z,g2,-⟩:=h.agt hn<|BG hi;have hm:(i+1+(DL p n.id).length-1)%(DL p n.id).length=i:=by rw[show i+1+(DL p n.id).length-1=i+(DL p n.id).length by omega,aCX];exact ZC I
   have C:precD (DL p n.id) (DL p n.id)[i+1]=(DL p n.id)[i]:=by rw[mX (h.jW hn) hi];congr 1
   rw[<-C,<-z,h.agu<|WW g2,h.VP g2]
 obtain⟨i,hi,rfl⟩:=Dy.1 hd;obtain⟨j,K,rfl⟩:=Dy.1 o;rw[c i hi,c j K]
end
section
variable{p:Pl}(h:Valid p)
include h
theorem Valid.alone(k:Nat)(hk:k<=p.AP.length){x:Int}(z:x∈nC p)(h0:JJ p.AP x=0):JY p k x=x/\∀y∈nC p,JY p k y=x->y=x:=by rw[aow]at h0;induction k with|zero=>refine⟨h.aEu z,λy j e=>?_⟩;rw[h.aEu j]at e;exact e|succ k C=>
  obtain⟨s,c⟩:=C I;rw[(h.aEt (k:=k) I).1];have o:=BG (show k<p.AP.length by omega);have hm:=h.agr o;have K:JY p k p.AP[k].fr≠x:=λe=>(h0 _ o).1<|c _ hm.1 e;have M:JY p k p.AP[k].dst≠x:=λe=>(h0 _ o).2<|c _ hm.2 e;split
  .unfold mrg;refine⟨by rw[s,AX λe=>K e.symm],λy j e=>?_⟩;split at e;.exact absurd e M
   exact c y j e
  .exact⟨s,c⟩
end
def xN(a b:Pt)(τ:Int):Int:=a.x*(2*F b-τ)+b.x*(τ-2*F a)
def Ey(τ:Int)(a b:Pt):Int:=(if τ<2*F b then 1 else 0)-if τ<2*F a then 1 else 0
def wR(s t:Pt)(τ:Int)(v:Pt):Int:=if F s<F v/\2*F v<τ/\tw s t v<0 then 1 else 0
def dX(a b s t:Pt)(τ:Int):Int:=xN a b τ*(F t-F s)-xN s t τ*(F b-F a)
theorem aq0(a b:Pt)(τ:Int):xN b a τ=-xN a b τ:=by unfold xN;grind
theorem agv(a b s t:Pt):dX a b s t (2*F s)=16777216*(F t-F s)*tw a b s:=by unfold dX xN tw F;grind
theorem agw(a b s t:Pt):dX a b s t (2*F t)=16777216*(F t-F s)*tw a b t:=by unfold dX xN tw F;grind
theorem agx(a b s t:Pt):dX a b s t (2*F a)=-(16777216*(F b-F a)*tw s t a):=by unfold dX xN tw F;grind
theorem agy(a b s t:Pt):dX a b s t (2*F b)=-(16777216*(F b-F a)*tw s t b):=by unfold dX xN tw F;grind
theorem abX(a b s t:Pt)(α τ β:Int):dX a b s t τ*(β-α)=dX a b s t α*(β-τ)+dX a b s t β*(τ-α):=by unfold dX xN;generalize F a=A;generalize F b=B;generalize F s=S;generalize F t=T;grind
theorem aq1{x y z p q:Int}(c:0<p)(j:0<q)(e:z*(p+q)=x*p+y*q):(0<x->0<=y->0<z)/\(0<=x->0<y->0<z)/\(x<=0->y<=0->¬0<z):=by
 refine⟨λh1 h2=>?_,λh1 h2=>?_,λh1 h2 h3=>?_⟩;.have a1:=KR h1 c;have o:=LX h2<|aS j;apply Iq;intro h3;have:=LX (show 0<=-z by omega) (show 0<=p+q by omega);rw[PY]at this;omega
 .have a1:=LX h1<|aS c;have o:=KR h2 j;apply Iq;intro h3;have:=LX (show 0<=-z by omega) (show 0<=p+q by omega);rw[PY]at this;omega
 have a1:=LX (show 0<=-x by omega)<|aS c;have o:=LX (show 0<=-y by omega)<|aS j;have s:=KR h3 (show 0<p+q by omega);rw[PY]at a1 o;omega
theorem aEx{c:Int}(j:0<c)(u:Int):(0<16777216*c*u↔0<u)/\(0<=16777216*c*u↔0<=u)/\(16777216*c*u<=0↔u<=0):=by
 have h:0<16777216*c:=I;generalize 16777216*c=k at*;rcases JR u 0 with h1|h1|h1;.have:=Yy h h1;omega
 .subst h1;simp
 have:=KR h h1;omega
theorem aq2{a b s t:Pt}{α τ β:Int}(h1:α<τ)(h2:τ<β):(0<dX a b s t α->0<=dX a b s t β->0<dX a b s t τ)/\(0<=dX a b s t α->0<dX a b s t β->0<dX a b s t τ)/\(dX a b s t α<=0->dX a b s t β<=0->¬0<dX a b s t τ):=by have:=abX a b s t α τ β;rw[show β-α=β-τ+(τ-α)by omega]at this;exact aq1 I I this
theorem lS{x y D:Int}(b:(0<x->0<=y->0<D)/\(0<=x->0<y->0<D)/\(x<=0->y<=0->¬0<D)){P:Prop}(h:(P->0<x/\0<=y)\/(P->0<=x/\0<y))(h2:¬P->x<=0/\y<=0):0<D↔P:=by
 by_cases hp:P
 .refine⟨λ_=>hp,λ_=>?_⟩;rcases h with h|h;.exact b.1 (h hp).1 (h hp).2
  exact b.2.1 (h hp).1 (h hp).2
 exact⟨λhd=>absurd hd<|b.2.2 (h2 hp).1 (h2 hp).2,λh=>absurd h hp⟩
theorem aq3{A B S T τ D:Int}{M U j:Prop}[Decidable M][Decidable U][Decidable j](hab:A<B)(hA:2*A≠τ)(hB:2*B≠τ)(h1:2*S<τ)(h2:τ<2*T)(o:A<S->τ<2*B->(0<D↔M))(s:A=S->τ<2*B->(0<D↔j))(aq4:S<A->2*A<τ->τ<2*B->(0<D↔U))(g1:A<S->S<B->B<T->(M↔j))(g3:S<A->B<T->(U↔j)):(if 2*A<τ/\τ<2*B/\0<D then(1:Int)else 0)=(if A<S/\S<B/\M then 1 else 0)+(if A=S/\j then 1 else 0)-0+((if S<A/\2*A<τ/\U then 1 else 0)-if S<B/\2*B<τ/\j then 1 else 0):=by
 rcases JR A S with c1|c1|c1
 .have z:¬A=S:=I;have C:¬S<A:=I;have e3:2*A<τ:=I;simp only[z,C,e3,c1,true_and,false_and,if_false];by_cases c2:2*B<τ
  .have c:¬τ<2*B:=I;simp only[c2,c,true_and,false_and,if_false];by_cases c3:S<B;.have:=g1 c1 c3 I;simp only[c3,this,true_and];omega
   simp only[c3,false_and,if_false];rfl
  have c:τ<2*B:=I;have K:S<B:=I;have:=o c1 c;simp only[c2,c,K,this,true_and,false_and,and_false,if_false];omega
 .have z:¬A<S:=I;have C:¬S<A:=I;have e3:2*A<τ:=I;have K:S<B:=I;simp only[c1,z,C,e3,K,Int.lt_irrefl,true_and,false_and,if_false,h1];by_cases c2:2*B<τ;.have c:¬τ<2*B:=I;simp only[c2,c,true_and,false_and,if_false];omega
  have c:τ<2*B:=I;have:=s c1 c;simp only[c2,c,this,true_and,false_and,if_false];omega
 have z:¬A<S:=I;have C:¬A=S:=I;have K:S<B:=I;simp only[z,C,c1,K,true_and,false_and,if_false];by_cases c3:2*A<τ
 .by_cases c2:2*B<τ;.have c:¬τ<2*B:=I;have:=g3 c1 I;simp only[c2,c3,c,this,true_and,false_and,if_false];omega
  have c:τ<2*B:=I;have:=aq4 c1 c3 c;simp only[c2,c3,c,this,true_and,false_and,if_false];omega
 have c:¬2*B<τ:=I;simp only[c3,c,false_and,if_false];rfl
theorem aq5{a b s t:Pt}(na:Bl a=true)(nb:Bl b=true)(U:Bl s=true)(nt:Bl t=true)(hab:F a<F b)(hst:F s<F t)(hno:a≠s->a≠t->b≠s->b≠t->Ns a b s t){τ:Int}(hA:2*F a≠τ)(hB:2*F b≠τ)(h1:2*F s<τ)(h2:τ<2*F t):(if 2*F a<τ/\τ<2*F b/\0<dX a b s t τ then 1 else 0)=RX s t a b+(wR s t τ a-wR s t τ b):=by
 have d1:=sU U nb nt;have d2:=sU U na nt;have q:∀{u v:Pt},Bl u=true->Bl v=true->(u=v↔F u=F v):=λhu hv=>⟨λe=>by rw[e],ML hu hv⟩;have e1:tw s b t=-tw s t b:=ahL s t b;have C:F a=F s->tw a b s=0/\tw s t a=0:=λh=>by have:=ML na U h;subst this;exact⟨Zv a b,Zv a t⟩
 have z:F b=F t->tw a b t=0/\tw s t b=0:=λh=>by have:=ML nb nt h;subst this;exact⟨Zw a b,Zw s b⟩
 have j:F a≠F s->F a≠F t->F b≠F s->F b≠F t->_:=λh1 h2 h3 h4=>ahN (s:=s) (t:=t) hab hst<|hno (λe=>h1 Rf) (λe=>h2 Rf) (λe=>h3 Rf)<|λe=>h4 Rf;have k1:a=s/\Es s b t↔F a=F s/\tw s t b<0:=by rw[d1,q na U,e1];constructor<;>(rintro⟨h1,h2⟩;exact⟨h1,I⟩)
 have k2:¬(b=s/\Es s a t):=by rw[d2,q nb U];rintro⟨h1,h2⟩;omega
 have m1:OG a b s=if F a<F s/\F s<F b/\0<tw a b s then 1 else 0:=by unfold OG;rw[AX<|show¬(F b<F s/\F s<F a/\0<tw b a s)by omega]
 have gS:=agv a b s t;have gT:=agw a b s t;have gA:=agx a b s t;have gB:=agy a b s t;have bw:=λ(α β:Int)(g1:α<τ)(g2:τ<β)=>aq2 (a:=a) (b:=b) (s:=s) (t:=t) g1 g2;unfold RX;rw[m1,AX k2];simp only[k1];unfold wR;have sS:=aEx (show 0<F t-F s by omega)<|tw a b s;have sT:=aEx (show 0<F t-F s by omega)<|tw a b t;have sA:=aEx (show 0<F b-F a by omega)<|tw s t a;have sB:=aEx (show 0<F b-F a by omega)<|tw s t b;have Na:=bw (2*F s)<|2*F b;have K:=bw (2*F s)<|2*F t;have Gs:=bw (2*F a)<|2*F b;have M:=bw (2*F a)<|2*F t;rw[gS,gB]at Na;rw[gS,gT]at K;rw[gA,gB]at Gs;rw[gA,gT]at M;clear hno d1 d2 e1 q na nb U nt k1 k2 m1 gS gT gA gB bw;generalize dX a b s t τ=D at*;generalize 16777216*(F t-F s)*tw a b s=vS at*;generalize 16777216*(F t-F s)*tw a b t=vT at*;generalize 16777216*(F b-F a)*tw s t a=vA at*;generalize 16777216*(F b-F a)*tw s t b=vB at*;generalize tw a b s=u1 at*;generalize tw a b t=u2 at*;generalize tw s t a=u3 at*;generalize tw s t b=u4 at*;generalize F a=A at*;generalize F b=B at*;generalize F s=S at*;generalize F t=T at*;refine aq3 hab hA hB h1 h2 (λc1 c2=>?_) (λc1 c2=>?_) (λc1 c3 c2=>?_) (λc1 c2 c3=>?_) λc1 c2=>?_
 .rcases JR B T with o|o|o;.have j:=(j I I I I).1 c1 I o;clear C z Gs M K sA sT;exact lS (Na h1 c2) (.inl λc=>⟨sS.1.2 c,I⟩) λc=>⟨I,I⟩
  .obtain⟨g1,g2⟩:=z o;clear C z j Gs M Na sA sB;exact lS (K h1 h2) (.inl λc=>⟨sS.1.2 c,I⟩) λc=>⟨I,I⟩
  have j:=(j I I I I).2.1 c1 o;clear C z Gs M Na sA sB;exact lS (K h1 h2) (.inl λc=>⟨sS.1.2 c,I⟩) λc=>⟨I,I⟩
 .obtain⟨g1,g2⟩:=C c1;clear C z j Gs M K sA sT;exact lS (Na h1 c2) (.inr λc=>⟨I,I⟩) λc=>⟨I,I⟩
 .rcases JR B T with o|o|o;.have j:=(j I I I I).2.2.1 c1 o;clear C z K M Na sS sT;exact lS (Gs c3 c2) (.inl λc=>⟨I,I⟩) λc=>⟨I,I⟩
  .obtain⟨g1,g2⟩:=z o;clear C z j K M Na sS sT;exact lS (Gs c3 c2) (.inl λc=>⟨I,I⟩) λc=>⟨I,I⟩
  have j:=(j I I I I).2.2.2 c1 I o;clear C z K Gs Na sS sB;exact lS (M c3 h2) (.inl λc=>⟨I,I⟩) λc=>⟨I,I⟩
 .exact(j I I I I).1 c1 c2 c3
 exact(j I I I I).2.2.1 c1 c2
theorem aq6{p q:Pt}{c j:Int}(o:0<8388608*j+c)(e:(q.x-p.x)*j=(q.y-p.y)*c):(0<=c->(CU p q=true↔F p<F q))/\(c<0->(CU p q=true↔F q<F p)):=by
 have k:(8388608*(q.y-p.y)+(q.x-p.x))*c=(q.x-p.x)*(8388608*j+c):=by grind
 have hd:F q-F p=8388608*(q.y-p.y)+(q.x-p.x):=by unfold F;omega
 rw[<-hd]at k;have z:q.x-p.x=0->c≠0->q.y-p.y=0:=λh0 h1=>by
  rw[h0,JQ]at e;rcases Yz.1 e.symm with h2|h2;.exact h2
  exact absurd h2 h1
 rw[Np];generalize 8388608*j+c=N at*;generalize hu:q.x-p.x=u at*;have C:0<u->0<u*N:=λh=>KR h o;have K:u<0->u*N<0:=λh=>Xd h o;have s3:u=0->u*N=0:=λh=>by rw[h,JQ]
 refine⟨λh=>?_,λh=>?_⟩
 .by_cases h0:c=0
  .subst h0;have M:u=0:=by
    rcases JR u 0 with g|g|g;.have:=K g;omega
    .exact g
    have:=C g;omega
   unfold F at*;omega
  have s:0<c:=I;have T:0<F q-F p->0<(F q-F p)*c:=λh=>KR h s;have U:F q-F p<0->(F q-F p)*c<0:=λh=>Xd h s;have t3:F q-F p=0->(F q-F p)*c=0:=λh=>by rw[h,JQ]
  omega
 have T:0<F q-F p->(F q-F p)*c<0:=λg=>Yy g h;have U:F q-F p<0->0<(F q-F p)*c:=λg=>xg g h;have t3:F q-F p=0->(F q-F p)*c=0:=λh=>by rw[h,JQ]
 omega
theorem agz{X Y:Pt}(h:CU X Y=true):(if X=Y then(1:Int)else if CU X Y then 2 else 0)=2:=by rw[AX (λe=>by rw[e,nY]at h;cases h),AZ h]
theorem aq7{a b s t:Pt}(c:F a<F b)(j:F s<F t)(h1:tw a b s=0)(h2:tw a b t=0)(h3:F s<F b)(h4:F a<F t):Lc a b s t=2:=by
 have hN:0<8388608*(b.y-a.y)+(b.x-a.x):=by unfold F at c;omega
 have ln:∀{p q:Pt},tw a b p=0->tw a b q=0->(q.x-p.x)*(b.y-a.y)=(q.y-p.y)*(b.x-a.x):=by
  intro p q T U;have:tw a b q-tw a b p=(b.x-a.x)*(q.y-p.y)-(b.y-a.y)*(q.x-p.x):=by unfold tw;grind
  rw[T,U]at this;rw[KT<|q.x-p.x,KT<|q.y-p.y];omega
 have B:∀{p q:Pt},tw a b p=0->tw a b q=0->_:=λT U=>aq6 hN<|ln T U;have C:=Zv a b;have hb:=Zw a b;have o:=B hb C;have z:=B h2 h1;have Bsa:=B h1 C;have Btb:=B h2 hb;have Bab:=B C hb;have Bat:=B C h2;have Bsb:=B h1 hb;have Bst:=B h1 h2;have Bta:=B h2 C;have Bbs:=B hb h1;rw[Xl];by_cases hx:0<=b.x-a.x
 .have K:CU b a=false:=by rw[<-Je,o.1 hx];omega
  have M:CU t s=false:=by rw[<-Je,z.1 hx];omega
  have l1:lo a b=a:=by unfold lo;rw[K];simp
  have l2:hi a b=b:=by unfold hi;rw[K];simp
  have l3:lo s t=s:=by unfold lo;rw[M];simp
  have l4:hi s t=t:=by unfold hi;rw[M];simp
  rw[l1,l2,l3,l4];unfold hi lo;refine agz ?_;cases e3:CU s a<;>cases e4:CU t b<;>simp only[O7,if_true,if_false];.exact(Bsb.1 hx).2 h3
  .exact(Bst.1 hx).2 j
  .exact(Bab.1 hx).2 c
  exact(Bat.1 hx).2 h4
 have hx:b.x-a.x<0:=I;have K:CU b a=true:=(o.2 hx).2 c;have M:CU t s=true:=(z.2 hx).2 j;have l1:lo a b=b:=by unfold lo;rw[K];simp
 have l2:hi a b=a:=by unfold hi;rw[K];simp
 have l3:lo s t=t:=by unfold lo;rw[M];simp
 have l4:hi s t=s:=by unfold hi;rw[M];simp
 rw[l1,l2,l3,l4];unfold hi lo;refine agz ?_;cases e3:CU t b<;>cases e4:CU s a<;>simp only[O7,if_true,if_false];.exact(Bta.2 hx).2 h4
 .exact(z.2 hx).2 j
 .exact(o.2 hx).2 c
 exact(Bbs.2 hx).2 h3
theorem tJ{a b s t:Pt}(j:a≠b)(h1:tw a b s=0)(h2:tw a b t=0):tw s t a=0/\tw s t b=0:=by
 have c:=Pt.aCs j;unfold tw at*;have o:(b.x-a.x)*(t.y-s.y)-(b.y-a.y)*(t.x-s.x)=0:=by grind
 have z:(b.x-a.x)*(a.y-s.y)-(b.y-a.y)*(a.x-s.x)=0:=by grind
 have C:(b.x-a.x)*(b.y-s.y)-(b.y-a.y)*(b.x-s.x)=0:=by grind
 exact⟨parallel c o z,parallel c o C⟩
theorem abY{a b s t u v x y:Pt}(K:u=a/\v=b\/u=b/\v=a)(U:x=s/\y=t\/x=t/\y=s)(o:F a<F b)(M:F s<F t)(h1:tw a b s=0)(h2:tw a b t=0)(h3:F s<F b)(h4:F a<F t):OT u v x y=2:=by
 have hs:=aq7 o M h1 h2 h3 h4;have j:a≠b:=λe=>by rw[e]at o;omega
 obtain⟨h5,h6⟩:=tJ j h1 h2;have f1:∀a b c:Pt,tw b a c=-tw a b c:=λa b c=>by unfold tw;grind
 have T:Lc u v x y=2:=by
  have c1:Lc b a s t=2:=by rw[<-sD];exact hs
  have c2:Lc a b t s=2:=by rw[Zn,sD,Zn];exact hs
  have c3:Lc b a t s=2:=by rw[Zn,sD,Zn];exact c1
  rcases K with⟨rfl,rfl⟩|⟨rfl,rfl⟩<;>rcases U with⟨rfl,rfl⟩|⟨rfl,rfl⟩<;>assumption
 have z:u≠v:=by
  rcases K with⟨rfl,rfl⟩|⟨rfl,rfl⟩;.exact j
  exactλe=>j e.symm
 have C:tw u v x=0/\tw u v y=0:=by rcases K with⟨rfl,rfl⟩|⟨rfl,rfl⟩<;>rcases U with⟨rfl,rfl⟩|⟨rfl,rfl⟩<;>first|exact⟨h1,h2⟩|exact⟨h2,h1⟩|(constructor<;>rw[f1]<;>omega)
 obtain⟨z2,z3⟩:=tJ z C.1 C.2;have q1:BQ u v x y=0:=by rw[ac4];omega
 have q2:BQ u v u x=0:=C.1;have q3:BQ u v u y=0:=C.2;have q4:BQ x y x u=0:=z2;have q5:BQ x y x v=0:=z3;unfold OT;rw[AX λe=>z e.1,AZ q1,AZ ⟨q2,q3,q4,q5⟩];exact T
theorem aq8{a b s t:Pt}(na:Bl a=true)(nb:Bl b=true)(ns:Bl s=true)(nt:Bl t=true)(C:F a<F b)(K:F s<F t)(j:a≠s->a≠t->b≠s->b≠t->Ns a b s t){τ:Int}(h1:2*F s<τ)(h2:τ<2*F t)(h3:2*F a<τ)(M:τ<2*F b)(h0:dX a b s t τ=0):tw a b s=0/\tw a b t=0:=by
 have o:=abX a b s t (2*F s) τ<|2*F t;have l2:=abX a b s t (2*F a) τ<|2*F b;rw[h0,JQ,agv,agw]at o;rw[h0,JQ,agx,agy]at l2;have T:tw a b s*(2*F t-τ)+tw a b t*(τ-2*F s)=0:=by
  have:16777216*(F t-F s)*(tw a b s*(2*F t-τ)+tw a b t*(τ-2*F s))=0:=by rw[aCP,<-qp,<-qp];exact o.symm
  rcases Yz.1 this with g|g;.omega
  exact g
 have U:tw s t a*(2*F b-τ)+tw s t b*(τ-2*F a)=0:=by
  have:16777216*(F b-F a)*(tw s t a*(2*F b-τ)+tw s t b*(τ-2*F a))=0:=by rw[aCP,<-qp,<-qp];rw[PY,PY]at l2;omega
  rcases Yz.1 this with g|g;.omega
  exact g
 have sg:∀{u v p q:Int},0<p->0<q->u*p+v*q=0->u<=0/\0<=v/\(u=0↔v=0)\/0<=u/\v<=0/\(u=0↔v=0):=by
  intro u v p q c z e;have a1:0<u->0<u*p:=λh=>KR h c;have a2:u<0->u*p<0:=λh=>Xd h c;have a3:0<v->0<v*q:=λh=>KR h z;have a4:v<0->v*q<0:=λh=>Xd h z;have a5:u=0->u*p=0:=λh=>by rw[h,JQ]
  have a6:v=0->v*q=0:=λh=>by rw[h,JQ]
  omega
 have g1:=sg (show 0<2*F t-τ by omega) (show 0<τ-2*F s by omega) T;have g2:=sg (show 0<2*F b-τ by omega) (show 0<τ-2*F a by omega) U;have d:=zy a b s t;by_cases c:tw a b t-tw a b s=0;.omega
 by_cases c1:a=s;.subst c1;have:=Zv a b;omega
 by_cases c2:b=t;.subst c2;have:=Zw a b;omega
 have NM:=j c1 λe=>by rw[e]at h3;omega λe=>by rw[e]at M;omega c2 c;omega
section
variable{p:Pl}(h:Valid p)
include h
theorem Valid.ah0{a b:Ar}(K:a∈p.AP)(hb:b∈p.AP){k m:Nat}(hk:k+1<(AV p a).length)(hm:m+1<(AV p b).length)(hne:¬(a=b/\k=m)):¬(OT ((AV p a).getD k AY) ((AV p a).getD (k+1) AY) ((AV p b).getD m AY) ((AV p b).getD (m+1) AY)=2/\OT ((AV p b).getD m AY) ((AV p b).getD (m+1) AY) ((AV p a).getD k AY) ((AV p a).getD (k+1) AY)=2):=by
 have bC:∀{c d:Ar}{i j:Nat},c∈p.AP->d∈p.AP->i+1<(AV p c).length->j+1<(AV p d).length->ES [(AV p c).getD i AY,(AV p c).getD (i+1) AY,(AV p d).getD j AY,(AV p d).getD (j+1) AY]=true:=λhc hd hi M=>dh (h.DW hc I) (h.DW hc hi) (h.DW hd I)<|h.DW hd M;have U:∀{a:Ar}(K:a∈p.AP){i j:Nat},i<j->j+1<(AV p a).length->OT ((AV p a).getD i AY) ((AV p a).getD (i+1) AY) ((AV p a).getD j AY) ((AV p a).getD (j+1) AY)≠2:=by intro a K i j o M;have s:=h.UN.2.1 a K i j o M;unfold UZ Df at s;simp only at s;unfold GU at s;rw[AZ<|bC K K I M]at s;intro e;rw[e]at s;split at s<;>exact absurd s BI
 have z:∀{c d:Ar}{i j:Nat},c∈p.AP->d∈p.AP->i+1<(AV p c).length->j+1<(AV p d).length->OD p (Df p c i) (Df p d j)=true->OT ((AV p c).getD i AY) ((AV p c).getD (i+1) AY) ((AV p d).getD j AY) ((AV p d).getD (j+1) AY)≠2:=by intro c d i j hc hd hi M T e;unfold OD Df GU at T;simp only at T;rw[AZ<|bC hc hd hi M,e,AX BI]at T;exact absurd T BI
 rintro⟨h1,h2⟩;by_cases hab:a=b
 .subst hab;rcases Om k m with C|C|C;.exact U K C hm h1
  .exact hne ⟨rfl,C⟩
  exact U K C hk h2
 have hpw:=h.UN.2.2;obtain⟨i,hi,rfl⟩:=Dy.1 K;obtain⟨j,M,rfl⟩:=Dy.1 hb;rw[FT]at hpw;rcases Om i j with o|o|o;.exact z K hb hk hm (hpw i j hi M o k hk m hm) h1
 .subst o;exact hab rfl
 exact z hb K hm hk (hpw j i M hi o m hm k hk) h2
theorem Valid.aq9{c d:Ar}(z:c∈p.AP)(hd:d∈p.AP){k m:Nat}(hk:k+1<(AV p c).length)(hm:m+1<(AV p d).length)(hne:¬(c=d/\k=m)){a b s t:Pt}(C:(AV p c).getD k AY=a/\(AV p c).getD (k+1) AY=b\/(AV p c).getD k AY=b/\(AV p c).getD (k+1) AY=a)(K:(AV p d).getD m AY=s/\(AV p d).getD (m+1) AY=t\/(AV p d).getD m AY=t/\(AV p d).getD (m+1) AY=s){τ:Int}(h1:2*F s<τ)(h2:τ<2*F t)(h3:2*F a<τ)(h4:τ<2*F b):dX a b s t τ≠0:=by
 intro h0;have n1:=h.DW z (k:=k) I;have n2:=h.DW z (k:=k+1) hk;have n3:=h.DW hd (k:=m) I;have n4:=h.DW hd (k:=m+1) hm;have M:=λh1 h2 h3 h4=>h.acA z hd hk hm h1 h2 h3 h4;have one:=h.ah0 z hd hk hm hne;generalize(AV p c).getD k AY=u at*;generalize(AV p c).getD (k+1) AY=v at*;generalize(AV p d).getD m AY=x at*;generalize(AV p d).getD (m+1) AY=y at*;have na:Bl a=true/\Bl b=true:=by rcases C with⟨rfl,rfl⟩|⟨rfl,rfl⟩<;>exact⟨Ol,Ol⟩
 have ns:Bl s=true/\Bl t=true:=by rcases K with⟨rfl,rfl⟩|⟨rfl,rfl⟩<;>exact⟨Ol,Ol⟩
 have hno:a≠s->a≠t->b≠s->b≠t->Ns a b s t:=λT g2 g3 U=>by
  rcases C with⟨rfl,rfl⟩|⟨rfl,rfl⟩<;>rcases K with⟨rfl,rfl⟩|⟨rfl,rfl⟩;.exact M T g2 g3 U
  .exact(M g2 T U g3).comm.flip.comm
  .exact(M g3 U T g2).flip
  exact(M U g3 g2 T).flip.comm.flip.comm
 have j:F a<F b:=I;have o:F s<F t:=I;obtain⟨z1,z2⟩:=aq8 na.1 na.2 ns.1 ns.2 j o hno h1 h2 h3 h4 h0;obtain⟨z3,z4⟩:=tJ λe=>by rw[e]at j;omega z1 z2;exact one ⟨abY C K j o z1 z2 I I,abY K C o j z3 z4 I I⟩
end
def Qj(a b:Pt):Int:=a.x*b.y-b.x*a.y
def Kq(P:List Pt):Nat->Int|0=>0|k+1=>Kq P k+Qj (P.getD k AY) (P.getD (k+1) AY)
def SI(P:List Pt):Int:=Kq P<|P.length-1
def Qv(p:Pl)(d:Int):Int:=match FP p d with|none=>0|some a=>if 0<d then SI<|AV p a else-SI (AV p a)
def P5(p:Pl)(l:List Int):Nat->Int|0=>0|k+1=>P5 p l k+Qv p (l.getD k 0)
def WY(p:Pl)(l:List Int):Int:=if l.length<=512/\∀d∈l,(FP p d).isSome=true then P5 p l l.length else 0
theorem aqA(P:List Pt)(k:Nat)(hk:k+1<=P.length):Kq P.reverse k=Kq P (P.length-1-k)-Kq P (P.length-1):=by induction k with|zero=>simp[Kq]|succ k c=>
  rw[Kq,c I];obtain⟨m,hm⟩:∃m,P.length=m+k+2:=⟨P.length-k-2,I⟩;have j:P.reverse.getD k AY=P.getD (m+1) AY:=by rw[G5,List.getElem?_reverse I,G5];congr 2;omega
  have o:P.reverse.getD (k+1) AY=P.getD m AY:=by rw[G5,List.getElem?_reverse I,G5];congr 2;omega
  rw[j,o,show P.length-1-k=m+1 by omega,show P.length-1-(k+1)=m by omega,Kq];unfold Qj;omega
theorem aqB(P:List Pt)(h:1<=P.length):SI P.reverse=-SI P:=by unfold SI;rw[Z9,aqA P _ I];rw[show P.length-1-(P.length-1)=0 by omega];simp[Kq]
def MN(p:Pt):Prop:=(-1048576<=p.x/\p.x<=1048576)/\-1048576<=p.y/\p.y<=1048576
theorem uh{u v:Int}(c:-1048576<=u/\u<=1048576)(hv:-1048576<=v/\v<=1048576):-1099511627776<=u*v/\u*v<=1099511627776:=by have:=Rz u v 1048576 c.1 c.2 hv.1 hv.2;simpa using this
theorem aqC{a b:Pt}(c:MN a)(hb:MN b):-2199023255552<=Qj a b/\Qj a b<=2199023255552:=by have h1:=uh c.1 hb.2;have h2:=uh hb.1 c.2;unfold Qj;omega
theorem ah1{P:List Pt}(h:∀q∈P,MN q)(k:Nat)(hk:k+1<=P.length\/k=0):-(2199023255552*(k:Int))<=Kq P k/\Kq P k<=2199023255552*(k:Int):=by induction k with|zero=>simp[Kq]|succ k c=>
  have c:=c I;have g:∀j,j<P.length->MN (P.getD j AY):=λj o=>by rw[G5,DK o];exact h _<|BG o
  have:=aqC (g k I)<|g (k+1) I;rw[Kq];omega
theorem ah2{q:Pt}(h:KC q=true):MN q:=by unfold KC at h;simp only[EC,DI]at h;unfold MN;omega
theorem zH{p:Pl}{d:Int}{a:Ar}(e:FP p d=some a):a∈p.AP/\Et d=a.id:=by
 unfold FP at e;split at e;.cases e
 exact⟨Vz e,by have:=List.find?_some e;exact(show a.id=Et d by simpa using this).symm⟩
section
variable{p:Pl}(h:Valid p)
include h
theorem Valid.zI{a:Ar}(o:a∈p.AP){q:Pt}(c:q∈AV p a):MN q:=by
 have s:=h.rng;unfold Ou at s;simp only[EC,KO]at s;have j:∀q∈Vg p,MN q:=λq c=>ah2<|s.2 q c;unfold AV at c;rcases Dv.1 c with rfl|c;.obtain⟨n,hn,-,e⟩:=h.sound.Yi o;rw[e];exact j _<|O8 _<|H6 hn
 rcases F9.1 c with c|c;.exact j _<|aQ _<|Fj.2 ⟨a,o,c⟩
 rw[EJ]at c;subst c;obtain⟨n,hn,-,e⟩:=h.sound.Zt o;rw[e];exact j _<|O8 _<|H6 hn
theorem Valid.Td{a:Ar}(j:a∈p.AP):a.via.length<=64:=by have c:=h.lim;unfold Jr at c;rw[Rl,Xg]at c;have:=c.1 a j;simpa using this
theorem Valid.ah3{a:Ar}(c:a∈p.AP)(k:Nat)(hk:k+1<=(AV p a).length):-142936511610880<=Kq (AV p a) k/\Kq (AV p a) k<=142936511610880:=by have h1:=ah1 (P:=AV p a) (λq j=>h.zI c j) k<|.inl hk;have h2:=h.Td c;have h3:=En p a;omega
theorem Valid.aqD(d:Int):-142936511610880<=Qv p d/\Qv p d<=142936511610880:=by unfold Qv;cases e:FP p d with|none=>simp|some a=>have c:=(zH e).1;have h3:=En p a;have:=h.ah3 c ((AV p a).length-1) I;unfold SI;simp only[];split<;>omega
theorem Valid.ah4(l:List Int)(k:Nat):-(142936511610880*(k:Int))<=P5 p l k/\P5 p l k<=142936511610880*(k:Int):=by induction k with|zero=>simp[P5]|succ k c=>have:=h.aqD<|l.getD k 0;rw[P5];omega
theorem Valid.aqE{d:Int}(hd:-9223372036854775808<=d/\d<=9223372036854775807):((p.AP.any λa=>decide (a.id=d)||decide (a.id=IntKind.i64.wrap (-d)))&&!decide (d=0))=(FP p d).isSome:=by
 rw[KQ,EC,PW];constructor
 .rintro⟨⟨a,c,h1⟩,h0⟩;have j:=h.IB c;rw[LW,DI,DI]at h1;rcases h1 with h1|h1;.rw[<-h1,h.sQ c];rfl
  by_cases hm:d=-9223372036854775808
  .subst hm;have:IntKind.i64.wrap (-(-9223372036854775808))=-9223372036854775808:=by decide
   rw[this]at h1;omega
  rw[Gz _ I]at h1;rw[show d=-a.id by omega,h.zi c];rfl
 intro h1;cases e:FP p d with|none=>rw[e]at h1;cases h1|some a=>
  obtain⟨c,hi⟩:=zH e;have j:=h.IB c;unfold Et at hi;refine⟨⟨a,c,?_⟩,?_⟩
  .rw[LW,DI,DI];split at hi;.right;rw[Gz _ I];omega
   left;omega
  .simp only[Rh,IL];rintro rfl;simp at hi;omega
end
