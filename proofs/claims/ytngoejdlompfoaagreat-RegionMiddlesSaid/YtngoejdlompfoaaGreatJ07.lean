import Derived.Test.YtngoejdlompfoaaGreatJ06
set_option linter.unusedSimpArgs false
set_option linter.unusedVariables false
namespace Go.Proofs.YtngoejdlompfoaaGreat
open Go.RowKit
structure Valid(p:Pl):Prop where
 lim:Jr p=false
 ord:SB p=true
 rng:Ou p=true
 dup:Vh (p.nodes.map (·.pt))=false
 ends:p.AP.all (KD p)=true
 sides:Vm p=true
 abw:Nr p=true
theorem mO(p:Pl):LM p=0↔Valid p:=by
 unfold LM;constructor
 .intro h;split at h;.cases h
  rename_i h1;split at h;.cases h
  rename_i h2;split at h;.cases h
  rename_i h3;split at h;.cases h
  rename_i c;split at h;.cases h
  rename_i j;split at h;.cases h
  rename_i o;split at h;.cases h
  rename_i s;exact⟨by simpa using h1,by simpa using h2,by simpa using h3,by simpa using c,by simpa using j,by simpa using o,by simpa using s⟩
 rintro⟨h1,h2,h3,c,j,o,s⟩;simp[h1,h2,h3,c,j,o,s]
section
variable{p:Pl}
theorem Valid.sound(h:Valid p):Sound p:=by have ho:=h.ord;unfold SB at ho;rw[EC,EC]at ho;exact⟨zQ _ ho.1.1,zQ _ ho.1.2,KO.1 h.ends⟩
theorem aEh{q:Pt}(h:KC q=true):Bl q=true:=by simp only[KC,EC,DI]at h;rw[QO];omega
theorem Valid.near(h:Valid p){q:Pt}(j:q∈Vg p):Bl q=true:=by have c:=h.rng;unfold Ou at c;rw[EC]at c;exact aEh<|KO.1 c.2 q j
theorem Valid.zh(h:Valid p){n:Nd}(hn:n∈p.nodes):Bl n.pt=true:=h.near<|O8 _<|H6 hn
theorem Valid.ap7(h:Valid p){a:Ar}(c:a∈p.AP){q:Pt}(j:q∈a.via):Bl q=true:=h.near<|aQ _<|Fj.2 ⟨a,c,j⟩
theorem Sound.Yi(c:Sound p){a:Ar}(j:a∈p.AP):∃n∈p.nodes,n.id=a.fr/\nodeAt p a.fr=n.pt:=by obtain⟨⟨n,hn,e⟩,-⟩:=c.aEd j;exact⟨n,hn,e,by rw[<-e,c.RQ hn]⟩
theorem Sound.Zt(c:Sound p){a:Ar}(j:a∈p.AP):∃n∈p.nodes,n.id=a.dst/\nodeAt p a.dst=n.pt:=by obtain⟨-,⟨n,hn,e⟩⟩:=c.aEd j;exact⟨n,hn,e,by rw[<-e,c.RQ hn]⟩
theorem Valid.Zu(h:Valid p){a:Ar}(j:a∈p.AP){q:Pt}(c:q∈AV p a):Bl q=true:=by
 unfold AV at c;rcases Dv.1 c with rfl|c;.obtain⟨n,hn,-,e⟩:=h.sound.Yi j;rw[e];exact h.zh hn
 rcases F9.1 c with c|c;.exact h.ap7 j c
 rw[EJ]at c;subst c;obtain⟨n,hn,-,e⟩:=h.sound.Zt j;rw[e];exact h.zh hn
end
theorem ap8(a b:Pt):CU a b=false↔b.x<a.x\/a.x=b.x/\b.y<=a.y:=by rw[<-Je,Np];omega
theorem abx(a b:Pt):CU a (lo a b)=false:=by
 rcases dP a b with⟨h,-,c⟩|⟨h,-,c⟩;.rw[h];exact nY a
 rw[h];exact Qs c
theorem ah7(a b:Pt):CU b (lo a b)=false:=by rw[aal];exact abx b a
theorem aby(a b:Pt):CU (hi a b) a=false:=by
 rcases dP a b with⟨-,h,c⟩|⟨-,h,c⟩;.rw[h];exact c
 rw[h];exact nY a
theorem ah8(a b:Pt):CU (hi a b) b=false:=by rw[aCr];exact aby b a
theorem ah9{x y q:Pt}(h1:CU q x=false)(h2:CU q y=false):CU q (hi x y)=false:=by rcases dP x y with⟨-,h,-⟩|⟨-,h,-⟩<;>rw[h]<;>assumption
theorem ahA{x y q:Pt}(h1:CU x q=false)(h2:CU y q=false):CU (lo x y) q=false:=by rcases dP x y with⟨h,-⟩|⟨h,-⟩<;>rw[h]<;>assumption
theorem ahB{a b c d q:Pt}(h1:q=a\/q=b)(h2:q=c\/q=d):Lc a b c d≠0:=by
 have j:CU q (lo a b)=false:=by rcases h1 with rfl|rfl;exact abx _ _;exact ah7 _ _
 have o:CU q (lo c d)=false:=by rcases h2 with rfl|rfl;exact abx _ _;exact ah7 _ _
 have s:CU (hi a b) q=false:=by rcases h1 with rfl|rfl;exact aby _ _;exact ah8 _ _
 have g2:CU (hi c d) q=false:=by rcases h2 with rfl|rfl;exact aby _ _;exact ah8 _ _
 have f:=ah9 j o;have g:=ahA s g2;rw[Xl];generalize hi (lo a b) (lo c d)=x at*;generalize lo (hi a b) (hi c d)=y at*;by_cases hxy:x=y;.rw[AZ hxy];omega
 rw[AX hxy];have:CU x y=true:=by rw[ap8]at f g;rw[Np];have z:¬(x.x=y.x/\x.y=y.y):=λe=>hxy<|Pt.ext_iff'.2 e;omega
 rw[AZ this];omega
theorem dh{a b c d:Pt}(j:Bl a=true)(hb:Bl b=true)(o:Bl c=true)(hd:Bl d=true):ES [a,b,c,d]=true:=by simp[ES,j,hb,o,hd]
theorem ahC{a b c:Pt}(j:Bl a=true)(hb:Bl b=true)(o:Bl c=true):GU a b c b≠0:=by
 unfold GU;rw[AZ<|dh j hb o hb];unfold OT;have s:BQ a b a c=-BQ a b c b:=by unfold BQ;grind
 have z:BQ a b a b=0:=by unfold BQ;grind
 have C:BQ c b c a=BQ a b c b:=by unfold BQ;grind
 have K:BQ c b c b=0:=by unfold BQ;grind
 have M:BQ a c c b=BQ a b c b:=by unfold BQ;grind
 have T:BQ a c a b=BQ a b c b:=by unfold BQ;grind
 rw[AX<|show¬(a=b/\c=b/\¬a=c)fromλh=>h.2.2<|h.1.trans h.2.1.symm,s,z,C,K,M,T];generalize BQ a b c b=n at*;by_cases h0:n=0;.rw[AZ h0,AZ I];exact ahB (.inr rfl)<|.inr rfl
 rw[AX h0];by_cases hn:n<0;.rw[AZ hn,AZ I];omega
 rw[AX hn,AZ I];omega
theorem ap9{a b c:Pt}(j:Bl a=true)(hb:Bl b=true)(o:Bl c=true):GU a b c a≠0:=by
 unfold GU;rw[AZ<|dh j hb o j];unfold OT;have s:BQ a b a c=-BQ a b c a:=by unfold BQ;grind
 have z:BQ a b a a=0:=by unfold BQ;grind
 have C:BQ c a c a=0:=by unfold BQ;grind
 have K:BQ c a c b=-BQ a b c a:=by unfold BQ;grind
 have M:BQ a c c a=0:=by unfold BQ;grind
 have T:BQ a c a b=BQ a b c a:=by unfold BQ;grind
 rw[AX<|show¬(a=b/\c=a/\¬a=c)fromλh=>h.2.2 h.2.1.symm,s,z,C,K,M,T];generalize BQ a b c a=n at*;by_cases h0:n=0;.rw[AZ h0,AZ I];exact ahB (.inl rfl)<|.inr rfl
 rw[AX h0];by_cases hn:n<0;.rw[AZ hn,AZ I];omega
 rw[AX hn,AZ I];omega
theorem apA{a b:Pt}(c:Bl a=true)(hb:Bl b=true):MG a b b=true:=by
 unfold MG;have j:BQ a b a b=0:=by unfold BQ;grind
 have o:dL a b b b=0:=by unfold dL;grind
 simp[ES,c,hb,j,o]
theorem apB{a b:Pt}(c:Bl a=true)(hb:Bl b=true):MG a b a=true:=by
 unfold MG;have j:BQ a b a a=0:=by unfold BQ;grind
 have o:dL a a b a=0:=by unfold dL;grind
 simp[ES,c,hb,j,o]
def Df(p:Pl)(a:Ar)(k:Nat):Sg:=⟨a,k,(AV p a).length-1,(AV p a).getD k AY,(AV p a).getD (k+1) AY⟩
theorem sN{p:Pl}{a:Ar}{k:Nat}(hk:k+1<(AV p a).length):Df p a k∈LV a (AV p a):=EP.2 ⟨k,FC.2 I,rfl⟩
theorem gu(p:Pl)(a:Ar)(j:Nat)(c:j<a.via.length):(AV p a).getD (j+1) AY=a.via[j]:=by unfold AV;rw[aDq,G5,List.getElem?_append_left c,DK c];rfl
theorem WV(p:Pl)(a:Ar):(AV p a).getD 0 AY=nodeAt p a.fr:=rfl
theorem apC(p:Pl)(a:Ar)(j:Nat)(c:j<(AV p a).length):(AV p a).getD j AY∈AV p a:=by rw[G5,DK c];exact BG c
section
variable{p:Pl}(h:Valid p)
include h
theorem Valid.UN:(∀a∈p.AP,∀k,k+1<(AV p a).length->SA p (Df p a k)=true)/\(∀a∈p.AP,∀k m,k<m->m+1<(AV p a).length->UZ (Df p a k) (Df p a m)=true)/\p.AP.Pairwise λa b=>∀k,k+1<(AV p a).length->∀m,m+1<(AV p b).length->OD p (Df p a k) (Df p b m)=true:=by
 have j:=h.abw;unfold Nr at j;rw[aEc]at j;obtain⟨h1,h2⟩:=j;unfold Vk at h1 h2;rw[qy]at h2;refine⟨λa o k hk=>h1 _<|Fj.2 ⟨a,o,sN hk⟩,λa o k m s hm=>?_,?_⟩;.have h3:=h2.1 a o;unfold LV at h3;rw[H9,FT]at h3;have c:=h3 k m (by rw[Oo];omega) (by rw[Oo];omega) s;simp only[List.getElem_range]at c;unfold OE at c;rw[AZ rfl]at c;exact c
 have z:=h.sound.AP;rw[H9]at z;refine(z.and h2.2).imp ?_;rintro a b⟨hlt,h3⟩k hk m hm;have c:=h3 _ (sN hk) _<|sN hm;unfold OE at c;rw[AX<|show¬(Df p a k).arc.id=(Df p b m).arc.id fromλe=>by have e':a.id=b.id:=e;omega]at c;exact c
theorem Valid.DW{a:Ar}(c:a∈p.AP){k:Nat}(hk:k<(AV p a).length):Bl ((AV p a).getD k AY)=true:=h.Zu c<|apC p a k hk
theorem Valid.sO{a:Ar}(j:a∈p.AP){k:Nat}(hk:k+1<(AV p a).length){n:Nd}(hn:n∈p.nodes)(ho:MG (Df p a k).a (Df p a k).b n.pt=true):k=0/\a.fr=n.id\/k=a.via.length/\a.dst=n.id:=by
 have h1:=h.UN.1 a j k hk;unfold SA at h1;rw[EC,KO]at h1;have h2:=h1.1 n hn;unfold UJ at h2;rw[ho]at h2;unfold UH Df at h2;simp only[aDo,Bool.or_false,LW,EC,beq_iff_eq]at h2;have o:=En p a;rcases h2 with⟨h3,c⟩|⟨h3,c⟩;.left;exact⟨I,c⟩
 right;exact⟨I,c⟩
theorem Valid.distinct{a:Ar}(c:a∈p.AP){k:Nat}(hk:k+1<(AV p a).length):(AV p a).getD k AY≠(AV p a).getD (k+1) AY/\(a.fr=a.dst->4<=(AV p a).length):=by
 have h1:=h.UN.1 a c k hk;unfold SA WO Df at h1;simp only[EC,Rh,IL,LW,bne_iff_ne,DI]at h1;refine⟨h1.2.1,λe=>?_⟩;rcases h1.2.2 with h2|h2;.exact absurd e h2
 omega
theorem Valid.aEi{a:Ar}(c:a∈p.AP){j:Nat}(o:j<a.via.length){n:Nd}(hn:n∈p.nodes):a.via[j]≠n.pt:=by
 intro e;have C:=En p a;have hm:=gu p a j o;have s:MG (Df p a j).a (Df p a j).b n.pt=true:=by rw[<-e,<-hm];exact apA (h.DW c I)<|h.DW c I
 have K:MG (Df p a<|j+1).a (Df p a<|j+1).b n.pt=true:=by rw[<-e,<-hm];exact apB (h.DW c I)<|h.DW c I
 rcases h.sO c I hn s with⟨h1,h2⟩|⟨h1,h2⟩
 .have hd:=(h.distinct c (k:=j) I).1;obtain⟨M,z,T,U⟩:=h.sound.Yi c;have:nodeAt p a.fr=n.pt:=by rw[h2];exact h.sound.RQ hn
  subst h1;rw[WV,this,hm,e]at hd;exact hd rfl
 omega
theorem Valid.abz{a:Ar}(c:a∈p.AP){j m:Nat}(o:j<m)(hm:m<a.via.length):a.via[j]≠a.via[m]:=by
 intro e;have K:=En p a;have s:=gu p a j I;have z:=gu p a m hm;by_cases hn:m=j+1;.subst hn;have:=(h.distinct c (k:=j+1) I).1;rw[s,z]at this;exact this e
 have h1:=h.UN.2.1 a c j m o I;unfold UZ at h1;have C:¬((Df p a m).i=(Df p a j).i+1\/(Df p a j).i=0/\(Df p a m).i+1=(Df p a m).n/\(Df p a j).arc.fr=(Df p a j).arc.dst):=by unfold Df;simp only[];omega
 rw[AX C]at h1;have h2:GU ((AV p a).getD j AY) ((AV p a).getD (j+1) AY) ((AV p a).getD m AY) ((AV p a).getD (m+1) AY)=0:=by simpa[Df]using h1
 rw[z,<-e,<-s]at h2;exact ahC (h.DW c I) (h.DW c I) (h.DW c I) h2
theorem Valid.ahD:p.AP.Pairwise λa b=>∀x∈a.via,∀y∈b.via,x≠y:=by
 refine(List.Pairwise.and_mem.1 h.UN.2.2).imp ?_;rintro a b⟨s,hb,T⟩x hx y hy e;obtain⟨j,K,rfl⟩:=Dy.1 hx;obtain⟨m,M,rfl⟩:=Dy.1 hy;have hla:=En p a;have hlb:=En p b;have U:=gu p a j K;have e2:=gu p b m M;have z:=T j I m I;have C:=T (j+1) I m I;unfold OD at z C;have n1:GU (Df p a j).a (Df p a j).b (Df p b m).a (Df p b m).b≠0:=by unfold Df;simp only[];rw[e2,<-e,<-U];exact ahC (h.DW s I) (h.DW s I)<|h.DW hb I
 have n2:GU (Df p a<|j+1).a (Df p a<|j+1).b (Df p b m).a (Df p b m).b≠0:=by unfold Df;simp only[];rw[e2,<-e,<-U];exact ap9 (h.DW s I) (h.DW s I)<|h.DW hb I
 have m1:GU (Df p a j).a (Df p a j).b (Df p b m).a (Df p b m).b=1:=by
  by_cases hh:GU (Df p a j).a (Df p a j).b (Df p b m).a (Df p b m).b=1;.exact hh
  rw[AX hh]at z;exact absurd (by simpa using z) n1
 have m2:GU (Df p a<|j+1).a (Df p a<|j+1).b (Df p b m).a (Df p b m).b=1:=by
  by_cases hh:GU (Df p a<|j+1).a (Df p a<|j+1).b (Df p b m).a (Df p b m).b=1;.exact hh
  rw[AX hh]at C;exact absurd (by simpa using C) n2
 rw[AZ m1,PW]at z;rw[AZ m2,PW]at C;obtain⟨n,hn,c⟩:=z;obtain⟨n',hm,o⟩:=C;unfold OC at c o;rw[EC,EC]at c o;have k1:=h.sO s I hn c.1.2;have k2:=h.sO hb I hn c.2;have k3:=h.sO s I hm o.1.2;have k4:=h.sO hb I hm o.2;have hd:=(h.distinct s (k:=j) I).2;omega
theorem Valid.O6:(p.AP.flatMap (·.via)).Pairwise (·≠·):=by rw[qy];refine⟨λa o=>?_,h.ahD⟩;rw[FT];intro i j hi s c;exact h.abz o c s
end
theorem count_none{l:List Pt}{q:Pt}(h:q∉l):Zo l q=0:=by unfold Zo;rw[aa2.2 λx c=>by simp;rintro rfl;exact h c];rfl
theorem count_one{l:List Pt}{q:Pt}(h:l.Pairwise (·≠·))(j:q∈l):Zo l q=1:=by induction l with|nil=>cases j|cons a l o=>
  rw[I8]at h;by_cases e:a=q;.subst e;have hn:a∉l:=λhm=>h.1 a hm rfl;have:=count_none hn;unfold Zo at this⊢;rw[List.filter_cons_of_pos Ak];simp only[Gy];omega
  .have:=o h.2 (by
    rcases Dv.1 j with c|c;.exact absurd c.symm e
    exact c);unfold Zo at this⊢;rw[List.filter_cons_of_neg<|by simpa using e];exact this
theorem apD(l m:List Pt)(q:Pt):Zo (l++m) q=Zo l q+Zo m q:=by unfold Zo;rw[yC,EK]
theorem Valid.count{p:Pl}(h:Valid p){a:Ar}(c:a∈p.AP){j:Nat}(o:j<a.via.length):Zo (Vg p) a.via[j]=1:=by unfold Vg;rw[apD,count_none,count_one h.O6<|Fj.2 ⟨a,c,BG o⟩];intro hm;obtain⟨n,hn,e⟩:=EP.1 hm;exact h.aEi c o hn e.symm
theorem apE{o a b:Pt}(ha:a≠o)(hb:b≠o)(h1:¬Es o a b)(h2:¬Es o b a):tw o a b=0/\(CU o a=true↔CU o b=true):=by
 have ha':=yQ.1 ha;have hb':=yQ.1 hb;unfold Es Pn at h1 h2;have e:tw o a b=(a.x-o.x)*(b.y-o.y)-(a.y-o.y)*(b.x-o.x):=rfl;rw[Np,Np,e];generalize hux:a.x-o.x=M at*;generalize huy:a.y-o.y=T at*;generalize hvx:b.x-o.x=C at*;generalize hvy:b.y-o.y=K at*;rw[KT C,KT K]at h2;have hl:Ei M T↔Ei C K:=by by_cases l1:Ei M T<;>by_cases l2:Ei C K<;>simp[l1,l2]at h1 h2⊢
 have z:M*K-T*C=0:=by
  rcases JR (M*K-T*C) 0 with h|h|h;.exact absurd (.inr ⟨hl.symm,I⟩) h2
  .exact h
  exact absurd (.inr ⟨hl,h⟩) h1
 refine⟨z,?_⟩;have U:∀{a b:Int},0<a->0<b->0<a*b:=KR;have m2:∀{a b:Int},0<a->b<0->a*b<0:=Yy;have m3:∀{a b:Int},a<0->0<b->a*b<0:=Xd;have m4:∀{a b:Int},a<0->b<0->0<a*b:=xg;unfold Ei at hl;have key:(0<M↔0<C)/\(M<0↔C<0):=by
  rcases JR T 0 with s|s|s
  .have c:K<0:=by
    rcases JR K 0 with c|c|c;.exact c
    .have h3:C<0:=I;have:=m4 s h3;rw[c,LD]at z;omega
    omega
   rcases JR M 0 with x1|x1|x1<;>rcases JR C 0 with j|j|j;.omega
   .have:=m4 x1 c;rw[j,LD]at z;omega
   .have h3:=m4 x1 c;have h4:=m3 s j;omega
   .have:=m4 s j;rw[x1,JQ]at z;omega
   .omega
   .have:=m3 s j;rw[x1,JQ]at z;omega
   .have h3:=m2 x1 c;have h4:=m4 s j;omega
   .have:=m2 x1 c;rw[j,LD]at z;omega
   omega
  .rw[s,JQ]at z;have hx:M≠0:=I;have c:K=0:=by
    rcases Yz.1<|show M*K=0 by omega with h|h;.exact absurd h hx
    exact h
   omega
  have c:0<K:=by
   rcases JR K 0 with c|c|c;.omega
   .have h3:0<C:=I;have:=U s h3;rw[c,LD]at z;omega
   exact c
  rcases JR M 0 with x1|x1|x1<;>rcases JR C 0 with j|j|j;.omega
  .have:=m3 x1 c;rw[j,LD]at z;omega
  .have h3:=m3 x1 c;have h4:=U s j;omega
  .have:=m2 s j;rw[x1,JQ]at z;omega
  .omega
  .have:=U s j;rw[x1,JQ]at z;omega
  .have h3:=U x1 c;have h4:=m2 s j;omega
  .have:=U x1 c;rw[j,LD]at z;omega
  omega
 omega
theorem apF{o a b:Pt}(s:a≠o)(hb:b≠o)(h:CU o a=true↔CU o b=true):Lc o a o b=2:=by
 have j:∀q:Pt,q≠o->CU o q=true\/CU q o=true:=λq U=>by
  cases h1:CU o q
  .cases h2:CU q o;.exact absurd (ru h2 h1) U
   exact .inr rfl
  exact .inl rfl
 rw[Xl];rcases j a s with h1|h1
 .have h2:=h.1 h1;have z:lo o a=o:=by unfold lo;rw[Qs h1];simp
  have C:lo o b=o:=by unfold lo;rw[Qs h2];simp
  have K:hi o a=a:=by unfold hi;rw[Qs h1];simp
  have M:hi o b=b:=by unfold hi;rw[Qs h2];simp
  have T:hi o o=o:=by unfold hi;rw[nY];simp
  rw[z,C,K,M,T];have c:lo a b=a\/lo a b=b:=by unfold lo;split;exact .inr rfl;exact .inl rfl
  rcases c with c|c<;>rw[c];.rw[AX λe=>s e.symm,AZ h1]
  rw[AX λe=>hb e.symm,AZ h2]
 have h2:CU b o=true:=by
  rcases j b hb with h3|h3;.rw[Qs<|h.2 h3]at h1;cases h1
  exact h3
 have z:lo o a=a:=by unfold lo;rw[h1];simp
 have C:lo o b=b:=by unfold lo;rw[h2];simp
 have K:hi o a=o:=by unfold hi;rw[h1];simp
 have M:hi o b=o:=by unfold hi;rw[h2];simp
 have T:lo o o=o:=by unfold lo;rw[nY];simp
 rw[z,C,K,M,T];have c:hi a b=a\/hi a b=b:=by unfold hi;split;exact .inl rfl;exact .inr rfl
 rcases c with c|c<;>rw[c];.rw[AX s,AZ h1]
 rw[AX hb,AZ h2]
theorem ahE{o a b:Pt}(ho:Bl o=true)(c:Bl a=true)(j:Bl b=true)(s:a≠o)(hb:b≠o)(h1:¬Es o a b)(h2:¬Es o b a):GU o a o b=2/\GU a o o b=2/\GU o a b o=2/\GU a o b o=2:=by
 obtain⟨K,z⟩:=apE s hb h1 h2;have C:=apF s hb z;have c1:Lc a o o b=2:=by rw[<-C];exact sD a o o b
 have c2:Lc o a b o=2:=by rw[Zn,sD,Zn];exact C
 have M:Lc a o b o=2:=by rw[Zn,sD,Zn];exact c1
 unfold tw at K;unfold GU OT;refine⟨?_,?_,?_,?_⟩;.rw[AZ<|dh ho c ho j,AX λe=>s e.1.symm,AZ Oj,AZ ⟨Oj,Oj,Oj,Oj⟩];exact C
 .rw[AZ<|dh c ho ho j,AX λe=>s e.1,AZ Oj,AZ ⟨Oj,Oj,Oj,Oj⟩];exact c1
 .rw[AZ<|dh ho c j ho,AX λe=>s e.1.symm,AZ Oj,AZ ⟨Oj,Oj,Oj,Oj⟩];exact c2
 rw[AZ<|dh c ho j ho,AX λe=>s e.1,AZ Oj,AZ ⟨Oj,Oj,Oj,Oj⟩];exact M
def Et(d:Int):Int:=if d<0 then-d else d
def mP:Int:=-9223372036854775808
def FP(p:Pl)(d:Int):Option Ar:=if d=0\/d=mP then none else findAr p.AP<|Et d
def Jh(p:Pl)(d:Int):Int:=match FP p d with|none=>0|some a=>if 0<d then a.fr else a.dst
def Ej(p:Pl)(d:Int):Int:=match FP p d with|none=>0|some a=>if 0<d then a.left else a.right
def Dl(l:List Ar)(n:Int):List Int:=l.flatMap λa=>(if a.fr=n then[a.id]else[])++if a.dst=n then[-a.id]else[]
def E8(p:Pl)(d:Int):Pt:=match findAr p.AP<|Et d with|none=>AY|some a=>if 0<d then(AV p a).getD 1 AY else(AV p a).getD a.via.length AY
def BZ(p:Pl):List Int:=(p.AP.map<|λa=>-a.id).reverse++p.AP.map (·.id)
section
variable{p:Pl}(h:Valid p)
include h
theorem Valid.IB{a:Ar}(j:a∈p.AP):1<=a.id/\a.id<=1073741824:=by have c:=h.rng;unfold Ou at c;rw[EC]at c;have h1:=c.1;rw[Rh,Xg]at h1;have:=h1 a.id<|O8 _<|aQ _<|H6 j;unfold LJ at this;simp only[LW,DI,not_or]at this;omega
theorem Valid.apG{n:Nd}(hn:n∈p.nodes):1<=n.id/\n.id<=1073741824:=by have c:=h.rng;unfold Ou at c;rw[EC]at c;have h1:=c.1;rw[Rh,Xg]at h1;have:=h1 n.id<|O8 _<|O8 _<|H6 hn;unfold LJ at this;simp only[LW,DI,not_or]at this;omega
theorem Valid.find{a:Ar}(c:a∈p.AP):findAr p.AP a.id=some a:=zS (λx:Ar=>x.id) p.AP h.sound.AP a c
theorem Valid.ac0{a b:Ar}(c:a∈p.AP)(hb:b∈p.AP)(e:a.id=b.id):a=b:=by have h1:=h.find c;rw[e,h.find hb]at h1;exact(Dn h1).symm
theorem Valid.sQ{a:Ar}(c:a∈p.AP):FP p a.id=some a:=by have:=h.IB c;unfold FP Et mP;rw[AX I,AX I,h.find c]
theorem Valid.zi{a:Ar}(c:a∈p.AP):FP p (-a.id)=some a:=by have:=h.IB c;unfold FP Et mP;rw[AX I,AZ I,QF,h.find c]
theorem Valid.aEj{a:Ar}(c:a∈p.AP):Jh p a.id=a.fr:=by have:=h.IB c;unfold Jh;rw[h.sQ c];show(if 0<a.id then a.fr else a.dst)=a.fr;rw[AZ I]
theorem Valid.zk{a:Ar}(c:a∈p.AP):Jh p (-a.id)=a.dst:=by have:=h.IB c;unfold Jh;rw[h.zi c];show(if 0< -a.id then a.fr else a.dst)=a.dst;rw[AX I]
theorem Valid.mQ{a:Ar}(c:a∈p.AP):E8 p a.id=(AV p a).getD 1 AY:=by have:=h.IB c;unfold E8 Et;rw[AX I,h.find c];show(if 0<a.id then _ else _)=_;rw[AZ I]
theorem Valid.gy{a:Ar}(c:a∈p.AP):E8 p (-a.id)=(AV p a).getD a.via.length AY:=by have:=h.IB c;unfold E8 Et;rw[AZ I,QF,h.find c];show(if 0< -a.id then _ else _)=_;rw[AX I]
end
theorem TV{l:List Ar}{n d:Int}:d∈Dl l n↔∃a∈l,d=a.id/\a.fr=n\/d=-a.id/\a.dst=n:=by
 unfold Dl;rw[Fj];refine exists_congr λa=>and_congr_right λ_=>?_;rw[F9];constructor
 .rintro(h|h)
  .split at h;.rw[EJ]at h;exact .inl ⟨h,Ol⟩
   cases h
  split at h;.rw[EJ]at h;exact .inr ⟨h,Ol⟩
  cases h
 rintro(⟨h1,h2⟩|⟨h1,h2⟩);.left;rw[AZ h2,h1];exact EJ.2 rfl
 right;rw[AZ h2,h1];exact EJ.2 rfl
theorem Ij{p:Pl}{d:Int}:d∈BZ p↔∃a∈p.AP,d=a.id\/d=-a.id:=by
 unfold BZ;rw[F9,aCV,EP,EP];constructor
 .rintro(⟨a,c,rfl⟩|⟨a,c,rfl⟩);.exact⟨a,c,.inr rfl⟩
  exact⟨a,c,.inl rfl⟩
 rintro⟨a,c,rfl|rfl⟩;.exact .inr ⟨a,c,rfl⟩
 exact .inl ⟨a,c,rfl⟩
section
variable{p:Pl}(h:Valid p)
include h
theorem Valid.ac1{n:Nd}(hn:n∈p.nodes){d:Int}(hd:d∈Dl p.AP n.id):∃a∈p.AP,∃k,k+1<(AV p a).length/\(d=a.id/\k=0/\a.fr=n.id/\(AV p a).getD k AY=n.pt/\(AV p a).getD (k+1) AY=E8 p d\/d=-a.id/\k=a.via.length/\a.dst=n.id/\(AV p a).getD (k+1) AY=n.pt/\(AV p a).getD k AY=E8 p d):=by
 obtain⟨a,c,h1⟩:=TV.1 hd;have j:=En p a;rcases h1 with⟨rfl,h2⟩|⟨rfl,h2⟩;.refine⟨a,c,0,I,.inl ⟨rfl,rfl,h2,?_,(h.mQ c).symm⟩⟩;rw[WV,h2];exact h.sound.RQ hn
 refine⟨a,c,a.via.length,I,.inr ⟨rfl,rfl,h2,?_,(h.gy c).symm⟩⟩;have:(AV p a).getD (a.via.length+1) AY=nodeAt p a.dst:=by unfold AV;rw[aDq,G5,List.getElem?_append_right I];simp
 rw[this,h2];exact h.sound.RQ hn
theorem Valid.mV{n:Nd}(hn:n∈p.nodes){d:Int}(hd:d∈Dl p.AP n.id):Bl n.pt=true/\Bl (E8 p d)=true/\E8 p d≠n.pt:=by
 obtain⟨a,s,k,hk,h1⟩:=h.ac1 hn hd;have j:=h.DW s (k:=k) I;have o:=h.DW s (k:=k+1) hk;have c:=(h.distinct s hk).1;rcases h1 with⟨-,-,-,z,C⟩|⟨-,-,-,z,C⟩;.rw[z]at j c;rw[C]at o c;exact⟨j,o,c.symm⟩
 rw[z]at o c;rw[C]at j c;exact⟨o,j,c⟩
theorem Valid.dirs{n:Nd}(hn:n∈p.nodes){d1 d2:Int}(h1:d1∈Dl p.AP n.id)(h2:d2∈Dl p.AP n.id)(K:d1≠d2):Es n.pt (E8 p d1) (E8 p d2)\/Es n.pt (E8 p d2) (E8 p d1):=by
 by_cases c1:Es n.pt (E8 p d1)<|E8 p d2;.exact .inl c1
 by_cases c2:Es n.pt (E8 p d2)<|E8 p d1;.exact .inr c2
 exfalso;have key:∀{c o:Int},c∈Dl p.AP n.id->o∈Dl p.AP n.id->¬Es n.pt (E8 p c) (E8 p o)->¬Es n.pt (E8 p o) (E8 p c)->∀{a b:Ar}{k m:Nat},(AV p a).getD k AY=n.pt/\(AV p a).getD (k+1) AY=E8 p c\/(AV p a).getD (k+1) AY=n.pt/\(AV p a).getD k AY=E8 p c->(AV p b).getD m AY=n.pt/\(AV p b).getD (m+1) AY=E8 p o\/(AV p b).getD (m+1) AY=n.pt/\(AV p b).getD m AY=E8 p o->GU (Df p a k).a (Df p a k).b (Df p b m).a (Df p b m).b=2:=by
  intro c o m1 m2 q1 q2 a b k m s1 s2;obtain⟨n0,n1,x1⟩:=h.mV hn m1;obtain⟨-,n2,x2⟩:=h.mV hn m2;obtain⟨r1,r2,r3,r4⟩:=ahE n0 n1 n2 x1 x2 q1 q2;unfold Df;rcases s1 with⟨u1,u2⟩|⟨u1,u2⟩<;>rcases s2 with⟨v1,v2⟩|⟨v1,v2⟩<;>simp only[u1,u2,v1,v2];.exact r1
  .exact r3
  .exact r2
  exact r4
 obtain⟨a,ha,k,hk,s1⟩:=h.ac1 hn h1;obtain⟨b,hb,m,hm,s2⟩:=h.ac1 hn h2;have t1:(AV p a).getD k AY=n.pt/\(AV p a).getD (k+1) AY=E8 p d1\/(AV p a).getD (k+1) AY=n.pt/\(AV p a).getD k AY=E8 p d1:=by
  rcases s1 with⟨-,-,-,c,o⟩|⟨-,-,-,c,o⟩;.exact .inl ⟨c,o⟩
  exact .inr ⟨c,o⟩
 have t2:(AV p b).getD m AY=n.pt/\(AV p b).getD (m+1) AY=E8 p d2\/(AV p b).getD (m+1) AY=n.pt/\(AV p b).getD m AY=E8 p d2:=by
  rcases s2 with⟨-,-,-,c,o⟩|⟨-,-,-,c,o⟩;.exact .inl ⟨c,o⟩
  exact .inr ⟨c,o⟩
 have r12:=key h1 h2 c1 c2 t1 t2;have r21:=key h2 h1 c2 c1 t2 t1;by_cases hab:a=b
 .subst hab;have hl:=En p a;have same:∀{d3 d4:Int}{i j:Nat},d3≠d4->d3=a.id/\i=0/\a.fr=n.id\/d3=-a.id/\i=a.via.length/\a.dst=n.id->d4=a.id/\j=0/\a.fr=n.id\/d4=-a.id/\j=a.via.length/\a.dst=n.id->GU (Df p a i).a (Df p a i).b (Df p a j).a (Df p a j).b=2->i<j->False:=by
   intro d3 d4 i j K z1 z2 z3 z4;rcases z1 with⟨C,M,z⟩|⟨C,M,z⟩
   .rcases z2 with⟨x1,x2,x3⟩|⟨x1,x2,x3⟩;.omega
    have h4:=(h.distinct ha (k:=i) I).2<|z.trans x3.symm;have T:=h.UN.2.1 a ha i j z4 I;unfold UZ at T;rw[z3]at T;split at T;.simp at T
    simp at T
   rcases z2 with⟨x1,x2,x3⟩|⟨x1,x2,x3⟩;.omega
   omega
  have q1:d1=a.id/\k=0/\a.fr=n.id\/d1=-a.id/\k=a.via.length/\a.dst=n.id:=by
   rcases s1 with⟨C,M,z,-⟩|⟨C,M,z,-⟩;.exact .inl ⟨C,M,z⟩
   exact .inr ⟨C,M,z⟩
  have q2:d2=a.id/\m=0/\a.fr=n.id\/d2=-a.id/\m=a.via.length/\a.dst=n.id:=by
   rcases s2 with⟨C,M,z,-⟩|⟨C,M,z,-⟩;.exact .inl ⟨C,M,z⟩
   exact .inr ⟨C,M,z⟩
  rcases Om k m with U|U|U;.exact same K q1 q2 r12 U
  .subst U;have hd4:=h.distinct ha hk;rcases q1 with⟨C,M,z⟩|⟨C,M,z⟩
   .rcases q2 with⟨x1,x2,x3⟩|⟨x1,x2,x3⟩;.exact K<|C.trans x1.symm
    have:=hd4.2<|z.trans x3.symm;omega
   rcases q2 with⟨x1,x2,x3⟩|⟨x1,x2,x3⟩;.have:=hd4.2<|x3.trans z.symm;omega
   exact K<|C.trans x1.symm
  exact same (λe=>K e.symm) q2 q1 r21 U
 have hp:=h.UN.2.2;obtain⟨i,hi,rfl⟩:=Dy.1 ha;obtain⟨j,hj,rfl⟩:=Dy.1 hb;rw[FT]at hp;have no2:∀{s t:Sg},OD p s t=true->GU s.a s.b t.a t.b=2->False:=by intro s t hj2 h2;unfold OD at hj2;rw[h2]at hj2;simp at hj2
 rcases Om i j with hij|hij|hij;.exact no2 (hp i j hi hj hij k hk m hm) r12
 .subst hij;exact hab rfl
 exact no2 (hp j i hj hi hij m hm k hk) r21
end
def dn(c:Int->Int)(K:Nat):Prop:=∀x,c (pw c x K)=pw c x K
theorem zl{c:Int->Int}{x:Int}{K:Nat}(h:c (pw c x K)=pw c x K)(n:Nat):pw c x (K+n)=pw c x K:=by induction n with|zero=>rfl|succ n j=>show c (pw c x<|K+n)=_;rw[j,h]
theorem ahF{c:Int->Int}{x:Int}{i j:Nat}(hi:c (pw c x i)=pw c x i)(o:c (pw c x j)=pw c x j):pw c x i=pw c x j:=by
 rcases Nat.le_total i j with h|h;.have:=zl hi<|j-i;rw[show i+(j-i)=j by omega]at this;exact this.symm
 have:=zl o<|i-j;rw[show j+(i-j)=i by omega]at this;exact this
theorem dn.more{c:Int->Int}{K M:Nat}(h:dn c K)(hm:K<=M):dn c M:=by intro x;have:=zl (h x)<|M-K;rw[show K+(M-K)=M by omega]at this;rw[this];exact h x
theorem dn.eq{c:Int->Int}{K M:Nat}(h:dn c K)(hm:K<=M)(x:Int):pw c x M=pw c x K:=ahF (h.more hm x)<|h x
def NK(c:Int->Int)(a b:Int)(i:Int):Int:=if i=a then b else c i
theorem ahG{c:Int->Int}{a b x:Int}(n:Nat)(h:∀j,j<n->pw c x j≠a):pw (NK c a b) x n=pw c x n:=by induction n with|zero=>rfl|succ n o=>show NK c a b (pw (NK c a b) x n)=c (pw c x n);rw[o λj s=>h j I];unfold NK;rw[AX<|h n I]
theorem ahH{P:Nat->Prop}[DecidablePred P]:∀n,P n->∃j,j<=n/\P j/\∀i,i<j->¬P i
 |0,h=>⟨0,Dh _,h,λi hi=>I⟩|n+1,h=>by
  by_cases h2:∃m,m<=n/\P m;.obtain⟨m,hm,c⟩:=h2;obtain⟨j,h1,h3,o⟩:=ahH m c;exact⟨j,I,h3,o⟩
  exact⟨n+1,Dh _,h,λi hi c=>h2 ⟨i,I,c⟩⟩termination_by n=>n decreasing_by omega
theorem ahI{c:Int->Int}{K:Nat}(h:dn c K){a b:Int}(M:c a=a)(hb:c b=b)(C:a≠b):dn (NK c a b) (K+1)/\∀x,pw (NK c a b) x (K+1)=if pw c x K=a then b else pw c x K:=by
 have o:NK c a b b=b:=by unfold NK;rw[AX λe=>C e.symm,hb]
 have s:∀x,pw (NK c a b) x (K+1)=if pw c x K=a then b else pw c x K:=by
  intro x;by_cases hx:pw c x K=a
  .rw[AZ hx];obtain⟨j,h1,h2,h3⟩:=ahH (P:=λj=>pw c x j=a) K hx;have T:pw (NK c a b) x j=a:=by rw[ahG j h3];exact h2
   have z:pw (NK c a b) x (j+1)=b:=by show NK c a b (pw (NK c a b) x j)=b;rw[T];unfold NK;rw[AZ rfl]
   have U:NK c a b (pw (NK c a b) x<|j+1)=pw (NK c a b) x (j+1):=by rw[z];exact o
   have:=zl U<|K-j;rw[show j+1+(K-j)=K+1 by omega]at this;rw[this,z]
  rw[AX hx];have hn:∀j,j<K+1->pw c x j≠a:=by
   intro j hj e;have z:c (pw c x j)=pw c x j:=by rw[e];exact M
   exact hx<|(ahF (h x) z).trans e
  rw[ahG (K+1) hn];exact zl (h x) 1
 refine⟨λx=>?_,s⟩;rw[s x];split;.exact o
 rename_i hx;unfold NK;rw[AX hx];exact h x
def VK(l:List Nd)(i:Int):Int:=if i∈l.map (·.id)then i else 0
theorem apH(l:List Nd):dn (VK l) 1:=by
 intro x;show VK l (VK l x)=VK l x;unfold VK;by_cases h:x∈l.map (·.id);.rw[AZ h,AZ h]
 rw[AX h];split<;>rfl
def zo(K:Nat)(s:(Int->Int)×Int)(a:Ar):(Int->Int)×Int:=if pw s.1 a.fr K=pw s.1 a.dst K then s else(NK s.1 (pw s.1 a.fr K)<|pw s.1 a.dst K,s.2-1)
def VL(p:Pl)(k:Nat):(Int->Int)×Int:=(p.AP.take k).foldl (zo<|p.AP.length+1) (VK p.nodes,(p.nodes.length:Int))
theorem ac2(p:Pl)(k:Nat)(hk:k<p.AP.length):VL p (k+1)=zo (p.AP.length+1) (VL p k) p.AP[k]:=by unfold VL;rw[Eu hk,LG];rfl
structure apI(p:Pl)(k:Nat)(s:(Int->Int)×Int):Prop where
 flat:dn s.1<|k+1bd:∀x,-1073741824<=s.1 x/\s.1 x<=1073741824
 lo:(p.nodes.length:Int)-k<=s.2
 hi:s.2<=p.nodes.length
theorem apJ{p:Pl}(h:Valid p)(k:Nat)(hk:k<=p.AP.length):apI p k<|VL p k:=by induction k with
 |zero=>
  refine⟨apH _,λx=>?_,by simp[VL],by simp[VL]⟩;show-1073741824<=VK p.nodes x/\VK p.nodes x<=1073741824;unfold VK;split;.rename_i hm;obtain⟨n,hn,rfl⟩:=EP.1 hm;have:=h.apG hn;omega
  .omega|succ k o=>
  obtain⟨h1,h2,h3,z⟩:=o I;rw[ac2 p k I];generalize VL p k=s at*;unfold zo;split;.exact⟨h1.more I,h2,I,z⟩
  .rename_i c;have j:∀x,s.1 (pw s.1 x<|p.AP.length+1)=pw s.1 x (p.AP.length+1):=h1.more I;refine⟨(ahI h1 (j _) (j _) c).1,λx=>?_,by show _<=s.2-1;omega,by show s.2-1<=_;omega⟩;show-1073741824<=NK _ _ _ x/\NK _ _ _ x<=1073741824;unfold NK;split;.rw[<-j];exact h2 _
   exact h2 _
def F(p:Pt):Int:=8388608*p.y+p.x
theorem ML{a b:Pt}(c:Bl a=true)(hb:Bl b=true)(h:F a=F b):a=b:=by rw[QO]at c hb;unfold F at h;rw[Pt.ext_iff'];omega
instance(ux uy vx vy:Int):Decidable<|Pn ux uy vx vy:=by unfold Pn Ei;infer_instance
instance(o a b:Pt):Decidable<|Es o a b:=by unfold Es;infer_instance
def OG(a b v:Pt):Int:=if F a<F v/\F v<F b/\0<tw a b v then 1 else if F b<F v/\F v<F a/\0<tw b a v then-1 else 0
theorem ac3(a b v:Pt):OG b a v=-OG a b v:=by
 unfold OG;by_cases h1:F a<F v/\F v<F b/\0<tw a b v;.rw[AZ h1,AX I,AZ h1]
 rw[AX h1];by_cases h2:F b<F v/\F v<F a/\0<tw b a v;.rw[AZ h2,AX h1,AZ h2];rfl
 rw[AX h2,AX h1,AX h2];rfl
def zu(s t v:Pt):Int:=if F s<F v/\F v<F t/\tw s t v<0 then 1 else 0
theorem ahJ(a b s t:Pt):tw a b s*(F t-F b)+tw a b t*(F b-F s)=-((F b-F a)*tw s t b):=by unfold tw F;grind
theorem ahK(a b s t:Pt):tw a b s*(F t-F a)+tw a b t*(F a-F s)=-((F b-F a)*tw s t a):=by unfold tw F;grind
theorem zy(a b s t:Pt):tw a b t-tw a b s=tw s t a-tw s t b:=by unfold tw;grind
theorem ac4(a b s t:Pt):BQ a b s t=tw a b t-tw a b s:=by unfold tw BQ;grind
theorem apK(a s t:Pt):BQ a s s t=tw s t a:=by unfold tw BQ;grind
theorem apL(a b s:Pt):BQ a s a b=-tw a b s:=by unfold tw BQ;grind
theorem ahL(a b c:Pt):tw a c b=-tw a b c:=by unfold tw;grind
theorem Zv(a b:Pt):tw a b a=0:=by unfold tw;grind
theorem Zw(a b:Pt):tw a b b=0:=by unfold tw;grind
theorem ahM{a b s t:Pt}(c:a≠b)(h:OT a b s t=0)(hd:tw a b t-tw a b s≠0):¬(tw a b s<=0/\0<=tw a b t/\tw s t b<=0/\0<=tw s t a)/\¬(0<=tw a b s/\tw a b t<=0/\0<=tw s t b/\tw s t a<=0):=by
 have e:=zy a b s t;unfold OT at h;rw[AX λh=>c h.1,apK a s t,apL a b s,ac4 a b s t,AX hd]at h;split at h
 .split at h;.cases h
  omega
 split at h;.cases h
 omega
def Ns(a b s t:Pt):Prop:=tw a b t-tw a b s≠0->¬(tw a b s<=0/\0<=tw a b t/\tw s t b<=0/\0<=tw s t a)/\¬(0<=tw a b s/\tw a b t<=0/\0<=tw s t b/\tw s t a<=0)
theorem Ns.of{a b s t:Pt}(c:a≠b)(h:OT a b s t=0):Ns a b s t:=ahM c h
theorem Ns.comm{a b s t:Pt}(h:Ns a b s t):Ns s t a b:=by intro hd;have e:=zy a b s t;have:=h I;omega
theorem Ns.flip{a b s t:Pt}(h:Ns a b s t):Ns b a s t:=by
 intro hd;have c:tw b a s=-tw a b s:=by unfold tw;grind
 have j:tw b a t=-tw a b t:=by unfold tw;grind
 have:=h I;omega
theorem OH(x:Int){y z:Int}(h:y<z):(0<x*z-x*y↔0<x)/\(x*z-x*y<0↔x<0):=by
 rw[<-lF];have c:0<z-y:=I;rcases JR x 0 with h1|h1|h1;.have:=Xd h1 c;omega
 .subst h1;simp
 have:=KR h1 c;omega
theorem ahN{a b s t:Pt}(o:F a<F b)(z:F s<F t)(h:Ns a b s t):(F a<F s->F s<F b->F b<F t->(0<tw a b s↔tw s t b<0))/\(F a<F s->F t<F b->(0<tw a b s↔0<tw a b t))/\(F s<F a->F b<F t->(tw s t a<0↔tw s t b<0))/\(F s<F a->F a<F t->F t<F b->(0<tw a b t↔tw s t a<0)):=by
 have e:=zy a b s t;have i1:=ahJ a b s t;have i2:=ahK a b s t;have j1:=ahJ s t a b;have j2:=ahK s t a b;have C:=h;unfold Ns at C;clear h;generalize tw a b s=c at*;generalize tw a b t=j at*;generalize tw s t a=K at*;generalize tw s t b=M at*;generalize F a=A at*;generalize F b=B at*;generalize F s=S at*;generalize F t=T at*;rw[lF,lF,KT<|B-A,lF]at i1 i2;rw[lF,lF,KT<|T-S,lF]at j1 j2;have g1:=OH c z;have g2:=OH j z;have g3:=OH K o;have g4:=OH M o;refine⟨λh1 h2 h3=>?_,λh1 h2=>?_,λh1 h2=>?_,λh1 h2 h3=>?_⟩
 .have U:=OH c h3;have f2:=OH j h2;have f3:=OH c (show A<T by omega);have f4:=OH j h1;by_cases hd:j-c=0;.have:c=j:=I;subst this;omega
  have:=C hd;omega
 .have U:=OH c h2;have f2:=OH j (show S<B by omega);have f3:=OH c (show A<T by omega);have f4:=OH j h1;by_cases hd:j-c=0;.omega
  have:=C hd;omega
 .have U:=OH K h2;have f2:=OH M (show A<T by omega);have f3:=OH K (show S<B by omega);have f4:=OH M h1;by_cases hd:j-c=0;.omega
  have:=C hd;omega
 have U:=OH c h3;have f2:=OH j (show S<B by omega);have f3:=OH c h2;have f4:=OH j h1;by_cases hd:j-c=0;.have:c=j:=I;subst this;have f5:=OH c (show S<T by omega);omega
 have:=C hd;omega
theorem ahO{o p:Pt}(ho:Bl o=true)(c:Bl p=true):Ei (p.x-o.x) (p.y-o.y)↔F p<F o:=by rw[QO]at ho c;unfold Ei F;omega
theorem sU{o a b:Pt}(ho:Bl o=true)(c:Bl a=true)(hb:Bl b=true):Es o a b↔¬F a<F o/\F b<F o\/(F a<F o↔F b<F o)/\0<tw o a b:=by unfold Es Pn;rw[ahO ho c,ahO ho hb];rfl
theorem ahP{a b s t:Pt}(M:Bl a=true)(U:Bl b=true)(C:Bl s=true)(K:Bl t=true)(o:F a<F b)(z:F s<F t)(hno:a≠s->a≠t->b≠s->b≠t->Ns a b s t):OG a b s+(if a=s/\Es s b t then 1 else 0)-(if b=s/\Es s a t then 1 else 0)-(OG a b t-(if a=t/\Es t s b then 1 else 0)+if b=t/\Es t s a then 1 else 0)=zu s t b-zu s t a:=by
 have hne:a≠b:=λe=>by rw[e]at o;omega
 have d1:=sU C U K;have d2:=sU C M K;have d3:=sU K C U;have d4:=sU K C M;have q:∀{u v:Pt},Bl u=true->Bl v=true->(u=v↔F u=F v):=λhu hv=>⟨λe=>by rw[e],ML hu hv⟩;have e1:tw s b t=-tw s t b:=ahL s t b;have e2:tw t s a=-tw s t a:=by unfold tw;grind
 have f1:F a=F s->tw a b s=0/\tw s t a=0/\tw a b t=-tw s t b:=λh=>by have:=ML M C h;subst this;exact⟨Zv a b,Zv a t,e1⟩
 have j:F b=F t->tw a b t=0/\tw s t b=0/\tw a b s=-tw s t a:=λh=>by have:=ML U K h;subst this;exact⟨Zw a b,Zw s b,by unfold tw;grind⟩
 have c:F a≠F s->F a≠F t->F b≠F s->F b≠F t->_:=λh1 h2 h3 h4=>ahN (s:=s) (t:=t) o z<|hno (λe=>h1 Rf) (λe=>h2 Rf) (λe=>h3 Rf)<|λe=>h4 Rf;have k1:a=s/\Es s b t↔F a=F s/\tw s t b<0:=by rw[d1,q M C,e1];constructor<;>(rintro⟨h1,h2⟩;exact⟨h1,I⟩)
 have k2:¬(b=s/\Es s a t):=by rw[d2,q U C];rintro⟨h1,h2⟩;omega
 have k3:¬(a=t/\Es t s b):=by rw[d3,q M K];rintro⟨h1,h2⟩;omega
 have k4:b=t/\Es t s a↔F b=F t/\tw s t a<0:=by rw[d4,q U K,e2];constructor<;>(rintro⟨h1,h2⟩;exact⟨h1,I⟩)
 have m1:OG a b s=if F a<F s/\F s<F b/\0<tw a b s then 1 else 0:=by unfold OG;rw[AX<|show¬(F b<F s/\F s<F a/\0<tw b a s)by omega]
 have m2:OG a b t=if F a<F t/\F t<F b/\0<tw a b t then 1 else 0:=by unfold OG;rw[AX<|show¬(F b<F t/\F t<F a/\0<tw b a t)by omega]
 rw[m1,m2,AX k2,AX k3];unfold zu;simp only[k1,k4];clear hno d1 d2 d3 d4 e1 e2 q M U C K hne k1 k2 k3 k4 m1 m2;generalize tw a b s=u1 at*;generalize tw a b t=u2 at*;generalize tw s t a=u3 at*;generalize tw s t b=u4 at*;generalize F a=A at*;generalize F b=B at*;generalize F s=S at*;generalize F t=T at*;rcases JR A S with h1|h1|h1
 .clear f1;rcases JR B S with h3|h3|h3;.clear j c;rw[AX I,AX I,AX I,AX I,AX I,AX I];rfl
  .clear j c;rw[AX I,AX I,AX I,AX I,AX I,AX I];rfl
  rcases JR B T with h2|h2|h2;.have c:=(c I I I I).1 h1 h3 h2;clear j;simp only[h1,h3,h2,true_and,c,show¬A=S by omega,show¬T<B by omega,show¬B=T by omega,show¬S<A by omega,false_and,and_false,if_false];omega
  .obtain⟨-,-,j⟩:=j h2;clear c;simp only[h1,h3,h2,true_and,show¬A=S by omega,show¬S<A by omega,show¬T<T by omega,show A<T by omega,z,false_and,and_false,if_false];split<;>split<;>omega
  have c:=(c I I I I).2.1 h1 h2;clear j;simp only[h1,h3,h2,true_and,c,show¬A=S by omega,show¬S<A by omega,show¬B<T by omega,show¬B=T by omega,show A<T by omega,false_and,and_false,if_false];omega
 .obtain⟨f1a,f1b,f1⟩:=f1 h1;clear c;subst h1;rcases JR B T with h2|h2|h2;.clear j;simp only[o,h2,true_and,show¬A<A by omega,show¬B=T by omega,show¬T<B by omega,false_and,and_false,if_false];omega
  .obtain⟨f2a,f2b,j⟩:=j h2;subst h2;simp only[o,true_and,show¬A<A by omega,show¬B<B by omega,false_and,and_false,if_false];split<;>split<;>omega
  clear j;simp only[o,z,h2,true_and,show¬A<A by omega,show¬B=T by omega,show¬B<T by omega,false_and,and_false,if_false];split<;>split<;>omega
 clear f1;rcases JR A T with h3|h3|h3
 .rcases JR B T with h2|h2|h2;.have c:=(c I I I I).2.2.1 h1 h2;clear j;simp only[h1,h2,h3,true_and,c,show¬A<S by omega,show¬A=S by omega,show¬T<B by omega,show¬B=T by omega,show S<B by omega,false_and,and_false,if_false];omega
  .clear j c;subst h2;simp only[h1,h3,z,true_and,show¬A<S by omega,show¬A=S by omega,show¬B<B by omega,false_and,and_false,if_false];omega
  have c:=(c I I I I).2.2.2 h1 h3 h2;clear j;simp only[h1,h2,h3,true_and,c,show¬A<S by omega,show¬A=S by omega,show¬B<T by omega,show¬B=T by omega,false_and,and_false,if_false];omega
 .clear j c;rw[AX I,AX I,AX I,AX I,AX I,AX I];rfl
 clear j c;rw[AX I,AX I,AX I,AX I,AX I,AX I];rfl
def Zx(lt:Int->Int->Bool)(l:List Int)(c:Int):List Int:=l.takeWhile (λx=>!lt c x)++c::l.dropWhile λx=>!lt c x
def sortB(lt:Int->Int->Bool)(l:List Int):List Int:=l.foldl (Zx lt) []
theorem ac5(lt:Int->Int->Bool)(l:List Int)(c:Int):(Zx lt l c).Perm<|c::l:=by unfold Zx;refine List.perm_middle.trans ?_;rw[aCW]
structure dw(lt:Int->Int->Bool)(D:List Int):Prop where
 asym:∀x∈D,∀y∈D,lt x y=true->lt y x=false
 ntr:∀x∈D,∀y∈D,∀z∈D,lt x y=false->lt y z=false->lt x z=false
 tri:∀x∈D,∀y∈D,lt x y=false->lt y x=false->x=y
theorem apM{lt:Int->Int->Bool}{D:List Int}(ho:dw lt D){l:List Int}(h:l.Pairwise λa b=>lt b a=false)(s:∀x∈l,x∈D){c:Int}(T:c∈D):(Zx lt l c).Pairwise λa b=>lt b a=false:=by induction l with|nil=>simp[Zx]|cons a l ih=>
  have z:=I8.1 h;have U:=s a ED;unfold Zx;cases j:lt c a
  .have C:(a::l).takeWhile (λx=>!lt c x)=a::l.takeWhile λx=>!lt c x:=by rw[aDm];simp[j]
   have K:(a::l).dropWhile (λx=>!lt c x)=l.dropWhile λx=>!lt c x:=by rw[lC];simp[j]
   rw[C,K];show List.Pairwise _<|a::Zx lt l c;refine I8.2 ⟨λx o=>?_,ih z.2 λx o=>s x<|FW _ o⟩;rcases Dv.1<|(ac5 lt l c).subset o with rfl|o;.exact j
   exact z.1 x o
  .have C:(a::l).takeWhile (λx=>!lt c x)=[]:=by rw[aDm];simp[j]
   have K:(a::l).dropWhile (λx=>!lt c x)=a::l:=by rw[lC];simp[j]
   rw[C,K,Rj];refine I8.2 ⟨λx o=>?_,h⟩;have h1:=ho.asym c T a U j;rcases Dv.1 o with rfl|M;.exact h1
   exact ho.ntr x (s x o) a U c T (z.1 x M) h1
theorem ahQ{lt:Int->Int->Bool}{D:List Int}(ho:dw lt D):∀(l j:List Int),j.Pairwise (λa b=>lt b a=false)->(∀x∈l,x∈D)->(∀x∈j,x∈D)->(l.foldl (Zx lt) j).Perm (j++l)/\(l.foldl (Zx lt) j).Pairwise λa b=>lt b a=false
 |[],j,h,_,_=>by simpa using h|c::l,j,h,hl,ha=>by
  have s:=hl c ED;have:=ahQ ho l (Zx lt j c) (apM ho h ha s) (λx o=>hl x<|FW _ o) (λx o=>by
   rcases Dv.1<|(ac5 lt j c).subset o with rfl|o;.exact s
   exact ha x o);refine⟨this.1.trans ?_,this.2⟩;refine((ac5 lt j c).append_right l).trans ?_;rw[aa3];exact List.perm_middle.symm
theorem mW{lt:Int->Int->Bool}{D:List Int}(ho:dw lt D):(sortB lt D).Perm D/\(sortB lt D).Pairwise λa b=>lt b a=false:=by have:=ahQ ho D [] List.Pairwise.nil (λx c=>c) (λx c=>by cases c);simpa[sortB]using this
theorem aon{lt:Int->Int->Bool}{D m:List Int}(ho:dw lt D)(c:m.Perm D)(j:m.Pairwise λa b=>lt b a=false):m=sortB lt D:=by obtain⟨h1,h2⟩:=mW ho;exact nN (c.trans h1.symm) j h2 λa o b hb=>ho.tri a (c.subset o) b<|c.subset hb
def ltD(p:Pl)(o:Pt)(d e:Int):Bool:=UW o (E8 p d)<|E8 p e
def DL(p:Pl)(n:Int):List Int:=match JW p.nodes n with|none=>[]|some x=>sortB (ltD p x.pt)<|Dl p.AP n
def precD(l:List Int)(d:Int):Int:=match l.findIdx? λx=>x==d with|none=>0|some i=>l.getD ((i+l.length-1)%l.length) 0
def FU(p:Pl)(d:Int):Int:=if(FP p d).isSome then precD (DL p<|Jh p<|-d)<|-d else 0
def CV(p:Pl):List<|List Int:=aDQ (FU p) (BZ p)<|BZ p
section
variable{p:Pl}(h:Valid p)
include h
theorem Valid.aA0{n:Nd}(hn:n∈p.nodes):dw (ltD p n.pt)<|Dl p.AP n.id:=by
 have C:∀d∈Dl p.AP n.id,∀e∈Dl p.AP n.id,ltD p n.pt d e=true↔Es n.pt (E8 p d) (E8 p e):=λd hd e K=>by obtain⟨T,U,x1⟩:=h.mV hn hd;obtain⟨-,n2,x2⟩:=h.mV hn K;unfold ltD;rw[aap];exact⟨λh=>h.2.2.2,λh=>⟨by simp[ES,T,U,n2],x1,x2,h⟩⟩
 have o:∀d∈Dl p.AP n.id,∀e∈Dl p.AP n.id,ltD p n.pt d e=false↔¬Es n.pt (E8 p d) (E8 p e):=λd hd e K=>by rw[<-C d hd e K,Je]
 have s:∀d∈Dl p.AP n.id,¬((E8 p d).x-n.pt.x=0/\(E8 p d).y-n.pt.y=0):=λd hd=>yQ.1 (h.mV hn hd).2.2;refine⟨λx c y j h1=>?_,λx c y j z M h1 h2=>?_,λx c y j h1 h2=>?_⟩;.rw[o y j x c];rw[C x c y j]at h1;exactλh2=>amq _ _<|ams (s x c) (s y j) (s x c) h1 h2
 .rw[o x c y j]at h1;rw[o y j z M]at h2;rw[o x c z M];exact amu (s x c) (s y j) (s z M) h1 h2
 rw[o x c y j]at h1;rw[o y j x c]at h2;rcases Decidable.em<|x=y with e|e;.exact e
 rcases h.dirs hn c j e with h3|h3;.exact absurd h3 h1
 exact absurd h3 h2
theorem Valid.aoo{n:Nd}(hn:n∈p.nodes):JW p.nodes n.id=some n:=zS (λx:Nd=>x.id) p.nodes h.sound.nodes n hn
theorem Valid.aEk{n:Nd}(hn:n∈p.nodes):DL p n.id=sortB (ltD p n.pt) (Dl p.AP n.id):=by unfold DL;rw[h.aoo hn]
theorem Valid.OI{n:Nd}(hn:n∈p.nodes):(DL p n.id).Perm<|Dl p.AP n.id:=by rw[h.aEk hn];exact(mW<|h.aA0 hn).1
theorem Valid.ac6{n:Int}:(Dl p.AP n).Nodup:=by
 have z:=h.sound.AP;rw[H9]at z;have c:∀a∈p.AP,1<=a.id:=λa C=>(h.IB C).1;unfold Dl List.Nodup;rw[qy];refine⟨λa C=>?_,?_⟩;.have:=c a C;split<;>split<;>simp<;>omega
 have K:p.AP.Pairwise λa b=>1<=a.id/\1<=b.id/\a.id<b.id:=by rw[FT]at z⊢;exactλi j hi T M=>⟨c _<|BG hi,c _<|BG T,z i j hi T M⟩
 refine K.imp ?_;rintro a b⟨h1,h2,h3⟩x o y s;have U:x=a.id\/x=-a.id:=by
  rcases F9.1 o with o|o
  .split at o;.exact .inl<|EJ.1 o
   cases o
  split at o;.exact .inr<|EJ.1 o
  cases o
 have hy':y=b.id\/y=-b.id:=by
  rcases F9.1 s with s|s
  .split at s;.exact .inl<|EJ.1 s
   cases s
  split at s;.exact .inr<|EJ.1 s
  cases s
 omega
theorem Valid.aEl:(BZ p).Pairwise (·<·):=by
 have j:=h.sound.AP;have c:∀a∈p.AP,1<=a.id:=λa o=>(h.IB o).1;unfold BZ;rw[QE];refine⟨?_,j,λx s y z=>?_⟩;.rw[List.pairwise_reverse,H9];rw[H9]at j;exact j.imp λh=>I
 rw[aCV,EP]at s;obtain⟨a,o,rfl⟩:=s;obtain⟨b,hb,rfl⟩:=EP.1 z;have:=c a o;have:=c b hb;omega
end
theorem aop{l:List Int}(c:l.Nodup){i:Nat}(hi:i<l.length):l.findIdx? λx=>x==l[i]=some i:=by rw[List.findIdx?_eq_some_iff_getElem];refine⟨hi,Ak,λj o=>?_⟩;rw[List.Nodup,FT]at c;have:=c j i I hi o;simpa using this
theorem mX{l:List Int}(c:l.Nodup){i:Nat}(hi:i<l.length):precD l l[i]=l[(i+l.length-1)%l.length]'(V7 _ I):=by unfold precD;rw[aop c hi];simp only[];rw[G5,DK<|V7 _ I];rfl
theorem aoq{l:List Int}(c:l.Nodup){d:Int}(hd:d∈l):precD l d∈l:=by obtain⟨i,hi,rfl⟩:=Dy.1 hd;rw[mX c hi];exact BG _
theorem aor{i j n:Nat}(hi:i<n)(o:j<n)(h:(i+n-1)%n=(j+n-1)%n):i=j:=by
 have c:∀k,k<n->(k+n-1)%n=if k=0 then n-1 else k-1:=λk hk=>by
  split;.subst k;rw[ZC I];omega
  rw[show k+n-1=k-1+n by omega,aCX,ZC I]
 rw[c i hi,c j o]at h;split at h<;>split at h<;>omega
theorem aos{l:List Int}(o:l.Nodup){d e:Int}(hd:d∈l)(z:e∈l)(h:precD l d=precD l e):d=e:=by
 obtain⟨i,hi,rfl⟩:=Dy.1 hd;obtain⟨j,s,rfl⟩:=Dy.1 z;rw[mX o hi,mX o s]at h;have c:=o;rw[List.Nodup,FT]at c;have e:(i+l.length-1)%l.length=(j+l.length-1)%l.length:=by
  rcases Om ((i+l.length-1)%l.length)<|(j+l.length-1)%l.length with h1|h1|h1;.exact absurd h<|c _ _ _ _ h1
  .exact h1
  exact absurd h.symm<|c _ _ _ _ h1
 have:=aor hi s e;subst this;rfl
theorem WW{p:Pl}{d:Int}(hd:d∈BZ p):-d∈BZ p:=by
 obtain⟨a,c,e⟩:=Ij.1 hd;refine Ij.2 ⟨a,c,?_⟩;rcases e with rfl|rfl;.exact .inr rfl
 exact .inl<|QF _
section
variable{p:Pl}(h:Valid p)
include h
theorem Valid.ahR{d:Int}(hd:d∈BZ p):(FP p d).isSome=true:=by
 obtain⟨a,c,e⟩:=Ij.1 hd;rcases e with rfl|rfl;.rw[h.sQ c];rfl
 rw[h.zi c];rfl
theorem Valid.ac7{d:Int}(hd:d∈BZ p):∃n∈p.nodes,n.id=Jh p d/\d∈Dl p.AP n.id:=by
 obtain⟨a,c,e⟩:=Ij.1 hd;rcases e with rfl|rfl;.obtain⟨n,hn,e,-⟩:=h.sound.Yi c;exact⟨n,hn,by rw[h.aEj c,e],TV.2 ⟨a,c,.inl ⟨rfl,e.symm⟩⟩⟩
 obtain⟨n,hn,e,-⟩:=h.sound.Zt c;exact⟨n,hn,by rw[h.zk c,e],TV.2 ⟨a,c,.inr ⟨rfl,e.symm⟩⟩⟩
theorem Valid.mY{n d:Int}(hd:d∈Dl p.AP n):d∈BZ p/\Jh p d=n:=by
 obtain⟨a,c,e⟩:=TV.1 hd;rcases e with⟨rfl,e⟩|⟨rfl,e⟩;.exact⟨Ij.2 ⟨a,c,.inl rfl⟩,by rw[h.aEj c,e]⟩
 exact⟨Ij.2 ⟨a,c,.inr rfl⟩,by rw[h.zk c,e]⟩
theorem Valid.jW{n:Nd}(hn:n∈p.nodes):(DL p n.id).Nodup:=(h.OI hn).nodup_iff.2 h.ac6
theorem Valid.sW{d:Int}(hd:d∈BZ p):∃n∈p.nodes,n.id=Jh p (-d)/\-d∈DL p n.id/\FU p d=precD (DL p n.id) (-d):=by obtain⟨n,hn,e,hm⟩:=h.ac7<|WW hd;refine⟨n,hn,e,(h.OI hn).symm.subset hm,?_⟩;unfold FU;rw[AZ<|h.ahR hd,e]
theorem Valid.SH{d:Int}(hd:d∈BZ p):FU p d∈BZ p/\Jh p (FU p d)=Jh p (-d):=by obtain⟨n,hn,e,hm,c⟩:=h.sW hd;rw[c];have h1:=aoq (h.jW hn) hm;have h2:=h.mY<|(h.OI hn).subset h1;exact⟨h2.1,by rw[h2.2,e]⟩
theorem Valid.Zy{d e:Int}(hd:d∈BZ p)(o:e∈BZ p)(c:FU p d=FU p e):d=e:=by obtain⟨n,hn,z,C,x1⟩:=h.sW hd;obtain⟨m,hm,K,s,M⟩:=h.sW o;have j:=(h.SH hd).2;rw[c,(h.SH o).2,<-K,<-z]at j;rw[x1,M,j]at c;rw[j]at s;have:=aos (h.jW hn) C s c;omega
theorem Valid.aEm:(BZ p).Nodup:=h.aEl.imp λh=>I
theorem Valid.Ik:QN (FU p) (BZ p) (BZ p)<|CV p:=anl (λx c=>(h.SH c).1) (λx c y j=>h.Zy c j) h.aEl
theorem Valid.ac8:(CV p).flatten.Perm<|BZ p:=h.Ik.perm (λx c=>(h.SH c).1) h.aEm
theorem Valid.aEn:(p.nodes.flatMap λn=>DL p n.id).Perm<|BZ p:=by
 refine(xq ?_ h.aEm).2 λd=>?_;.unfold List.Nodup;rw[qy];refine⟨λn hn=>h.jW hn,?_⟩;have c:=h.sound.nodes;rw[H9]at c;rw[FT]at c⊢;intro i j hi s o x z y C e;subst e;have h1:=(h.mY<|(h.OI<|BG hi).subset z).2;have h2:=(h.mY<|(h.OI<|BG s).subset C).2;have:=c i j hi s o;omega
 rw[Fj];constructor;.rintro⟨n,hn,hd⟩;exact(h.mY<|(h.OI hn).subset hd).1
 intro hd;obtain⟨n,hn,-,hm⟩:=h.ac7 hd;exact⟨n,hn,(h.OI hn).symm.subset hm⟩
end
section
variable{α β:Type}
theorem GK(l:List α)(f g:α->Int)(h:∀x∈l,f x=g x):(l.map f).sum=(l.map g).sum:=by rw[yD h]
theorem Uu(l:List α)(f:α->Int)(h:∀x∈l,f x=0):(l.map f).sum=0:=by induction l with|nil=>rfl|cons a l c=>rw[FB,H8,h a Ak,c λx j=>h x<|by simp[j]];rfl
theorem RV(l:List α)(f g:α->Int):(l.map λx=>f x+g x).sum=(l.map f).sum+(l.map g).sum:=by induction l with|nil=>rfl|cons a l c=>simp only[FB,H8,c];omega
theorem TY(l:List α)(f:α->Int):(l.map λx=>-f x).sum=-(l.map f).sum:=by induction l with|nil=>rfl|cons a l c=>simp only[FB,H8,c];omega
theorem Zz(l:List α)(c:Int)(f:α->Int):(l.map λx=>c*f x).sum=c*(l.map f).sum:=by induction l with|nil=>simp|cons a l j=>simp only[FB,H8,j,aCP]
theorem ac9(l:List α)(m:List β)(f:α->β->Int):(l.map λx=>(m.map λy=>f x y).sum).sum=(m.map λy=>(l.map λx=>f x y).sum).sum:=by induction l with|nil=>simp only[Ri,aP];rw[Uu m _ λ_ _=>rfl]|cons a l c=>simp only[FB,H8,c];rw[RV]
theorem aA1(n j:Nat)(f:Nat->Int)(h:∀k,k<n->k≠j->f k=0):((List.range n).map f).sum=if j<n then f j else 0:=by induction n with|zero=>rfl|succ n c=>
  rw[aU,Gt,PX,c λk hk=>h k I];simp only[FB,Ri,H8,aP,lG];by_cases hj:j=n;.subst hj;rw[AX I,AZ I];omega
  .rw[h n I λe=>hj e.symm];by_cases h2:j<n;.rw[AZ h2,AZ I];omega
   rw[AX h2,AX I];rfl
theorem sumT(n:Nat)(R:Nat->Int):((List.range n).map λk=>R (k+1)-R k).sum=R n-R 0:=by induction n with|zero=>simp|succ n c=>rw[aU,Gt,PX,c];simp only[FB,Ri,H8,aP];omega
theorem sZ(l:List α)(k:α->Int)(hk:(l.map k).Pairwise (·<·))(r:Int->Int)(x:Int)(o:∃y∈l,k y=x):(l.map λy=>if x=k y then r<|k y else 0).sum=r x:=by induction l with|nil=>obtain⟨y,c,-⟩:=o;cases c|cons a l s=>
  rw[FB,I8]at hk;rw[FB,H8];by_cases e:x=k a;.rw[AZ e,Uu l _ λy c=>AX λj=>by have:=hk.1 (k y)<|H6 c;omega,e];omega
  .rw[AX e,s hk.2<|by
    obtain⟨y,c,j⟩:=o;rcases Dv.1 c with rfl|c;.exact absurd j.symm e
    exact⟨y,c,j⟩];omega
end
def Ji(f:Pt->Pt->Int)(l:List Pt):Int:=((List.range<|l.length-1).map λk=>f (l.getD k AY)<|l.getD (k+1) AY).sum
def Dj(p:Pl)(z:Int->Int)(f:Pt->Pt->Int):Int:=(p.AP.map λa=>z a.id*Ji f (AV p a)).sum
theorem mZ(p:Pl)(z:Int->Int)(f g:Pt->Pt->Int):Dj p z (λa b=>f a b+g a b)=Dj p z f+Dj p z g:=by unfold Dj Ji;rw[<-RV];exact GK _ _ _ λa _=>by rw[RV,aCP]
theorem ahS(p:Pl)(z:Int->Int)(f:Pt->Pt->Int):Dj p z (λa b=>-f a b)=-Dj p z f:=by unfold Dj Ji;rw[<-TY];exact GK _ _ _ λa _=>by rw[TY,qm]
theorem agf(p:Pl)(z:Int->Int)(f g:Pt->Pt->Int):Dj p z (λa b=>f a b-g a b)=Dj p z f-Dj p z g:=by have:=mZ p z f λa b=>-g a b;rw[ahS]at this;simp only[<-aCY]at this;exact this
theorem aA2{p:Pl}{z:Int->Int}{f g:Pt->Pt->Int}(h:∀a∈p.AP,∀k,k+1<(AV p a).length->f ((AV p a).getD k AY) ((AV p a).getD (k+1) AY)=g ((AV p a).getD k AY) ((AV p a).getD (k+1) AY)):Dj p z f=Dj p z g:=by unfold Dj Ji;refine GK _ _ _ λa c=>?_;congr 1;exact GK _ _ _ λk hk=>h a c k aCJ
def G8(p:Pl)(z:Int->Int):Prop:=∀n∈p.nodes,(p.AP.map λa=>z a.id*((if a.dst=n.id then 1 else 0)-if a.fr=n.id then 1 else 0)).sum=0
theorem WX(p:Pl)(a:Ar):(AV p a).getD ((AV p a).length-1) AY=nodeAt p a.dst:=by rw[En];unfold AV;show(nodeAt p a.fr::(a.via++[nodeAt p a.dst])).getD (a.via.length+1) AY=_;rw[aDq,G5,List.getElem?_append_right I];simp
section
variable{p:Pl}(h:Valid p)
include h
theorem Valid.agh{z:Int->Int}(j:G8 p z)(r:Int->Int):(p.AP.map λa=>z a.id*(r a.dst-r a.fr)).sum=0:=by
 have e:(p.AP.map λa=>z a.id*(r a.dst-r a.fr)).sum=(p.AP.map λa=>(p.nodes.map λn=>r n.id*(z a.id*((if a.dst=n.id then 1 else 0)-if a.fr=n.id then 1 else 0))).sum).sum:=by refine GK _ _ _ λa c=>?_;obtain⟨o,h1,s,-⟩:=h.sound.Yi c;obtain⟨C,h2,K,-⟩:=h.sound.Zt c;have M:=sZ p.nodes (·.id) h.sound.nodes r a.fr ⟨o,h1,s⟩;have T:=sZ p.nodes (·.id) h.sound.nodes r a.dst ⟨C,h2,K⟩;rw[<-M,<-T,aCY,<-TY,<-RV,<-Zz];refine GK _ _ _ λn _=>?_;by_cases c1:a.dst=n.id<;>by_cases c2:a.fr=n.id<;>simp only[c1,c2,if_true,if_false]<;>grind
 rw[e,ac9];refine Uu _ _ λn hn=>?_;rw[Zz,j n hn,LD]
theorem Valid.su{z:Int->Int}(c:G8 p z)(R:Pt->Int):Dj p z (λa b=>R b-R a)=0:=by rw[<-h.agh c λi=>R<|nodeAt p i];unfold Dj Ji;refine GK _ _ _ λa _=>?_;rw[sumT ((AV p a).length-1) λk=>R<|(AV p a).getD k AY,WX,WV]
theorem Valid.acA{a b:Ar}(ha:a∈p.AP)(hb:b∈p.AP){k m:Nat}(hk:k+1<(AV p a).length)(hm:m+1<(AV p b).length)(h1:(AV p a).getD k AY≠(AV p b).getD m AY)(h2:(AV p a).getD k AY≠(AV p b).getD (m+1) AY)(h3:(AV p a).getD (k+1) AY≠(AV p b).getD m AY)(h4:(AV p a).getD (k+1) AY≠(AV p b).getD (m+1) AY):Ns ((AV p a).getD k AY) ((AV p a).getD (k+1) AY) ((AV p b).getD m AY)<|(AV p b).getD (m+1) AY:=by
 have bC:∀{c d:Ar}{i j:Nat},c∈p.AP->d∈p.AP->i+1<(AV p c).length->j+1<(AV p d).length->ES [(AV p c).getD i AY,(AV p c).getD (i+1) AY,(AV p d).getD j AY,(AV p d).getD (j+1) AY]=true:=λhc hd hi T=>dh (h.DW hc I) (h.DW hc hi) (h.DW hd I)<|h.DW hd T;have same:∀{i j:Nat},i<j->j+1<(AV p a).length->(AV p a).getD i AY≠(AV p a).getD (j+1) AY->(AV p a).getD (i+1) AY≠(AV p a).getD j AY->Ns ((AV p a).getD i AY) ((AV p a).getD (i+1) AY) ((AV p a).getD j AY) ((AV p a).getD (j+1) AY):=by
  intro i j o T n1 n2;have s:=h.UN.2.1 a ha i j o T;unfold UZ Df at s;simp only at s;rw[AX]at s;.rw[beq_iff_eq]at s;unfold GU at s;rw[AZ<|bC ha ha I T]at s;exact Ns.of (h.distinct ha (k:=i) I).1 s
  rintro(e|⟨U,e2,e3⟩);.subst e;exact n2 rfl
  subst U;apply n1;have hl:=WX p a;rw[show(AV p a).length-1=j+1 by omega]at hl;rw[hl,WV,e3]
 by_cases hab:a=b
 .subst hab;rcases Om k m with K|K|K;.exact same K hm h2 h3
  .subst K;exact absurd rfl h1
  exact(same K hk (λe=>h3 e.symm)<|λe=>h2 e.symm).comm
 have M:∀{c d:Ar}{i j:Nat},c∈p.AP->d∈p.AP->i+1<(AV p c).length->j+1<(AV p d).length->OD p (Df p c i) (Df p d j)=true->(AV p c).getD i AY≠(AV p d).getD j AY->(AV p c).getD i AY≠(AV p d).getD (j+1) AY->(AV p c).getD (i+1) AY≠(AV p d).getD j AY->(AV p c).getD (i+1) AY≠(AV p d).getD (j+1) AY->Ns ((AV p c).getD i AY) ((AV p c).getD (i+1) AY) ((AV p d).getD j AY) ((AV p d).getD (j+1) AY):=by
  intro c d i j hc hd hi T z n1 n2 n3 n4;unfold OD at z;split at z
  .exfalso;obtain⟨n,hn,hat⟩:=PW.1 z;unfold OC at hat;simp only[EC]at hat;have C:∀{c:Ar}{i:Nat},c∈p.AP->i+1<(AV p c).length->MG (Df p c i).a (Df p c i).b n.pt=true->(AV p c).getD i AY=n.pt\/(AV p c).getD (i+1) AY=n.pt:=by
    intro c i hc hi ho;rcases h.sO hc hi hn ho with⟨U,e2⟩|⟨U,e2⟩;.left;subst U;rw[WV,e2];exact h.sound.RQ hn
    right;have hl:=WX p c;rw[En,show c.via.length+2-1=i+1 by omega]at hl;rw[hl,e2];exact h.sound.RQ hn
   rcases C hc hi hat.1.2 with U|U<;>rcases C hd T hat.2 with e2|e2;.exact n1<|U.trans e2.symm
   .exact n2<|U.trans e2.symm
   .exact n3<|U.trans e2.symm
   exact n4<|U.trans e2.symm
  rw[beq_iff_eq]at z;unfold GU Df at z;rw[AZ<|bC hc hd hi T]at z;exact Ns.of (h.distinct hc hi).1 z
 have hpw:=h.UN.2.2;obtain⟨i,hi,rfl⟩:=Dy.1 ha;obtain⟨j,T,rfl⟩:=Dy.1 hb;rw[FT]at hpw;rcases Om i j with o|o|o;.exact M ha hb hk hm (hpw i j hi T o k hk m hm) h1 h2 h3 h4
 .subst o;exact absurd rfl hab
 exact(M hb ha hm hk (hpw j i T hi o m hm k hk) (λe=>h1 e.symm) (λe=>h3 e.symm) (λe=>h2 e.symm)<|λe=>h4 e.symm).comm
end
def aEo(p:Pl)(a:Ar):Prop:=(∀k,k+1<(AV p a).length->SA p (Df p a k)=true)/\∀k m,k<m->m+1<(AV p a).length->UZ (Df p a k) (Df p a m)=true
def aA3(p:Pl)(a b:Ar):Prop:=∀k,k+1<(AV p a).length->∀m,m+1<(AV p b).length->OD p (Df p a k) (Df p b m)=true
theorem acB{p:Pl}{a:Ar}{s:Sg}:s∈LV a (AV p a)↔∃k,k+1<(AV p a).length/\s=Df p a k:=by
 unfold LV;rw[EP];constructor;.rintro⟨k,hk,rfl⟩;have:=FC.1 hk;exact⟨k,I,rfl⟩
 rintro⟨k,hk,rfl⟩;exact⟨k,FC.2 I,rfl⟩
theorem agi(p:Pl)(K:(p.AP.map (·.id)).Pairwise (·<·)):Nr p=true↔(∀a∈p.AP,aEo p a)/\p.AP.Pairwise (aA3 p):=by
 rw[H9]at K;unfold Nr;rw[aEc];unfold Vk;rw[qy];constructor
 .rintro⟨h1,h2,h3⟩;refine⟨λa C=>⟨λk hk=>h1 _<|Fj.2 ⟨a,C,sN hk⟩,λk m j hm=>?_⟩,?_⟩;.have o:=h2 a C;unfold LV at o;rw[H9,FT]at o;have c:=o k m (by rw[Oo];omega) (by rw[Oo];omega) j;simp only[List.getElem_range]at c;unfold OE at c;rw[AZ rfl]at c;exact c
  refine(K.and h3).imp ?_;rintro a b⟨hlt,o⟩k hk m hm;have c:=o _ (sN hk) _<|sN hm;unfold OE at c;rw[AX<|show¬(Df p a k).arc.id=(Df p b m).arc.id fromλe=>by have e':a.id=b.id:=e;omega]at c;exact c
 rintro⟨h1,h2⟩;refine⟨λs z=>?_,λa C=>?_,?_⟩;.obtain⟨a,C,z⟩:=Fj.1 z;obtain⟨k,hk,rfl⟩:=acB.1 z;exact(h1 a C).1 k hk
 .unfold LV;rw[H9,FT];intro k m hk hm j;simp only[List.getElem_range];rw[Oo]at hm;unfold OE;rw[AZ rfl];exact(h1 a C).2 k m j I
 refine(K.and h2).imp ?_;rintro a b⟨hlt,o⟩s M t T;obtain⟨k,hk,rfl⟩:=acB.1 M;obtain⟨m,hm,rfl⟩:=acB.1 T;unfold OE;rw[AX<|show¬(Df p a k).arc.id=(Df p b m).arc.id fromλe=>by have e':a.id=b.id:=e;omega];exact o k hk m hm
theorem aot(p:Pl)(s t:Sg):OD p s t=OD p t s:=by
 unfold OD;rw[afh t.a t.b s.a s.b];have:OC s t=OC t s:=by funext x;unfold OC;cases Vj s.arc x.id<;>cases Vj t.arc x.id<;>cases MG s.a s.b x.pt<;>cases MG t.a t.b x.pt<;>rfl
 rw[this]
theorem aA3.symm{p:Pl}{a b:Ar}(h:aA3 p a b):aA3 p b a:=λk hk m hm=>by rw[aot];exact h m hm k hk
theorem all_map'{α:Type}(l:List α)(f:α->Bool):l.all f=(l.map f).all id:=by rw[ZE];rfl
theorem any_map'{α:Type}(l:List α)(f:α->Bool):l.any f=(l.map f).any id:=by rw[lH];rfl
theorem aou(l:List Pt):Vh l=false↔l.Pairwise (·≠·):=by
 constructor;.intro h;rw[FT];intro i j hi c o e;have:=aaw l j i o c e.symm;rw[h]at this;cases this
 intro h;rw[FT]at h;exact aax l λj k hk c e=>h k j I c hk e.symm
section
variable{p:Pl}(h:Valid p)
include h
end
theorem aov(a:Ar)(l:List Ar)(id:Int):JJ (a::l) id=(if a.fr=id then(1:Int)else 0)+(if a.dst=id then 1 else 0)+JJ l id:=by unfold JJ;rw[FB,H8]
theorem aow(l:List Ar)(id:Int):JJ l id=0↔∀a∈l,a.fr≠id/\a.dst≠id:=by induction l with|nil=>simp[JJ]|cons a l c=>
  rw[aov];have:=aaq l id;constructor
  .intro h b hb;have h1:a.fr≠id:=λe=>by rw[AZ e]at h;split at h<;>omega
   have h2:a.dst≠id:=λe=>by rw[AX h1,AZ e]at h;omega
   rw[AX h1,AX h2]at h;rcases Dv.1 hb with rfl|hb;.exact⟨h1,h2⟩
   exact c.1 I b hb
  .intro h;rw[AX (h a Ak).1,AX (h a Ak).2,c.2 λb hb=>h b<|by simp[hb]];rfl
