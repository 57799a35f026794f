import Derived.Test.YtngoejdlompfoaaGreatJ12
set_option linter.unusedSimpArgs false
set_option linter.unusedVariables false
set_option maxRecDepth 100000
set_option maxHeartbeats 8000000
namespace Go.Proofs.YtngoejdlompfoaaGreat
open Go.RowKit Tryz
def bn(x:Ar×SV):List Value:=[.int .i64 x.1.id,.int .i64 x.1.fr,.int .i64 x.1.dst,.slice x.2.a x.2.n x.2.c,.int .i64 x.1.left,.int .i64 x.1.right]
theorem aAY(x:Ar×SV):(bn x).length=6:=rfl
theorem adC(x:Ar×SV):∀u∈bn x,u.oneCell'=true:=by simp[bn,Value.oneCell']
def aAZ(x:Ar×SV):Ar×Value:=(x.1,.slice x.2.a x.2.n x.2.c)
def aAa:Value->SV|.slice a n c=>⟨a,n,c⟩|_=>⟨none,0,0⟩
theorem ahV(l:List<|Ar×SV):(l.map aAZ).flatMap lK=l.flatMap bn:=by rw[Qm];rfl
theorem gU.sv{w:World}{al:List<|Ar×Value}(h:gU w al):∃o:List<|Ar×SV,al=o.map aAZ:=by
 refine⟨al.map λx=>(x.1,aAa x.2),?_⟩;rw[KP];have:∀x∈al,(aAZ∘λx:Ar×Value=>(x.1,aAa x.2)) x=x:=λx j=>by obtain⟨k,hk,rfl⟩:=Dy.1 j;obtain⟨A,c,hv,-⟩:=h k hk;show(al[k].1,Value.slice (aAa al[k].2).a (aAa al[k].2).n (aAa al[k].2).c)=al[k];rw[Prod.ext_iff];exact⟨rfl,by rw[hv];rfl⟩
 exact(List.map_id al).symm.trans<|yD λx j=>(this x j).symm
theorem asM{α:Type}(f:α->List Value)(n:Nat)(hn:∀a,(f a).length=n)(l:List α)(i:Nat)(hi:i<l.length)(y:α)(m:Nat)(hm:m<l.length*n):((l.set i y).flatMap f)[m]?=if m/n=i then(f y)[m%n]? else(l.flatMap f)[m]?:=by
 have c:0<n:=by
  rcases Xe n with h0|h0;.subst h0;omega
  exact h0
 have h1:m/n<l.length:=aDj (by rw[yA];exact hm);have h2:m%n<n:=V7 _ c;have j:=flat_get f n hn (l.set i y) (m/n) (m%n) (by simpa using h1) h2;have o:=flat_get f n hn l (m/n) (m%n) h1 h2;rw[yB]at j o;rw[j,o,RZ];by_cases e:i=m/n;.rw[AZ e,AZ e.symm]
 rw[AX e,AX λh=>e h.symm]
theorem Own.oJ{α:Type}{w:World}{base g n c i j:Nat}{e:TypeId}{size:Nat}{f:α->List Value}(z:∀a,(f a).length=size){l:List α}(h:Own w base e size f (.slice (some ⟨g,0,none⟩) n c) l)(hi:i<l.length)(hj:j<size)(y:α)(u:Value)(hy:f y=(f l[i]).set j u):Own (w.setCell ⟨g,i*size+j,none⟩ u) base e size f (.slice (some ⟨g,0,none⟩) n c)<|l.set i y:=by
 obtain⟨h1,h2⟩:=h;rcases h2 with⟨hv,h0⟩|⟨g',cap,s,hv,hg,hh,C,hcm,hcs,hx⟩;.cases hv
 injection hv with K T e3;injection K with K;injection K with K _ _;subst K e3;have U:(l.set i y).length=l.length:=by simp
 have M:0<size:=I;refine⟨by rw[flat_length f size z],.inr ⟨g,c,_,by rw[U,T],hg,AO.EM hh (i*size+j) u,by rw[U];exact C,hcm,by simpa using hcs,?_⟩⟩;apply qw;intro m;rw[List.getElem?_take,U];by_cases hm:m<l.length*size
 .rw[AZ hm,asM f size z l i hi y m hm];have o:(l.flatMap f)[m]?=s[m]?:=by rw[<-hx,List.getElem?_take,AZ hm];simp
  have hmc:m<s.size:=by rw[hcs];have:=qx size C;omega
  have hdm:=Nat.div_add_mod m size;have hml:=V7 m M;rw[o];simp only[Array.getElem?_toList,Array.getElem?_setIfInBounds,Array.size_setIfInBounds];by_cases Q5:m/size=i
  .rw[AZ Q5,hy,List.getElem?_set];have hm2:m=i*size+m%size:=by rw[<-Q5,yA];omega
   by_cases hmj:j=m%size;.rw[AZ hmj,AZ<|show j<(f l[i]).length by rw[z];exact hj,AZ<|show i*size+j=m by omega];first|rw[AZ hmc]|rw[AZ<|show i*size+j<s.size by omega]
   rw[AX hmj,AX I];have T:=flat_get f size z l i (m%size) hi hml;rw[<-hm2]at T;rw[<-T,o]
  rw[AX Q5,AX λe=>Q5<|by rw[<-e,yA,Nat.mul_add_div M,Nat.div_eq_of_lt hj];rfl]
 rw[AX hm,aN<|by rw[flat_length f size z,U];omega]
def P6(Q:List Int):List<|Int×Int:=(List.range Q.length).map λj=>(-Q.getD ((j+1)%Q.length) 0,Q.getD j 0)
def P7(p:Pl)(k:Nat):List<|Int×Int:=(p.nodes.take k).flatMap λn=>P6<|DL p n.id
theorem uS(Q:List Int):(P6 Q).length=Q.length:=by simp[P6]
theorem asN(p:Pl)(k:Nat)(hk:k<p.nodes.length):P7 p (k+1)=P7 p k++P6 (DL p p.nodes[k].id):=by unfold P7;rw[Eu hk,LY];simp
theorem ahW(p:Pl)(k:Nat):(P7 p k).length=(Md p k).length:=by unfold P7 Md;rw[List.length_flatMap,List.length_flatMap];congr 1;exact yD λn _=>uS _
theorem asO(Q:List Int)(j:Nat)(c:j<Q.length)(hm:(j+1)%Q.length<Q.length):(P6 Q).take (j+1)=(P6 Q).take j++[(-Q[(j+1)%Q.length],Q[j])]:=by
 have h:j<(P6 Q).length:=by rw[uS];exact c
 rw[Eu h];congr 2;simp only[P6,Ib,List.getElem_range,G5,DK hm,DK c,I7]
theorem arV(Q:List Int):(P6 Q).take Q.length=P6 Q:=Ip<|by rw[uS];exact Dh _
theorem arW{Q:List Int}{x:Int×Int}(h:x∈P6 Q):∃j,∃c:j<Q.length,∃hm:(j+1)%Q.length<Q.length,x=(-Q[(j+1)%Q.length],Q[j]):=by unfold P6 at h;obtain⟨j,c,rfl⟩:=EP.1 h;rw[FC]at c;have hm:(j+1)%Q.length<Q.length:=V7 _ I;exact⟨j,c,hm,by simp only[G5,DK hm,DK c,I7]⟩
theorem arX{j N:Nat}(c:j<N):j=((j+1)%N+N-1)%N:=by
 by_cases e:j+1=N
 .subst e;rw[Nat.mod_self];have:(0+(j+1)-1)%(j+1)=j:=by rw[show 0+(j+1)-1=j by omega];exact ZC I
  exact this.symm
 rw[ZC<|show j+1<N by omega,show j+1+N-1=j+N by omega,aCX,ZC c]
section
variable{p:Pl}(h:Valid p)
include h
theorem Valid.arY{x:Int×Int}(c:x∈P7 p p.nodes.length):x.1∈BZ p/\x.2=FU p x.1:=by unfold P7 at c;rw[Gu]at c;obtain⟨n,hn,c⟩:=Fj.1 c;obtain⟨j,s,hm,rfl⟩:=arW c;have o:=h.jW hn;have h1:=h.adB hn<|BG hm;refine⟨WW h1.2,?_⟩;show(DL p n.id)[j]=FU p (-(DL p n.id)[(j+1)%(DL p n.id).length]);rw[h1.1,mX o hm];congr 1;exact arX s
theorem Valid.arZ{d:Int}(hd:d∈BZ p):d∈(P7 p p.nodes.length).map (·.1):=by
 obtain⟨n,hn,-,hm⟩:=h.ac7<|WW hd;have s:=(h.OI hn).symm.subset hm;obtain⟨i,hi,e⟩:=Dy.1 s;rw[EP];have c:∃j,j<(DL p n.id).length/\(j+1)%(DL p n.id).length=i:=by
  by_cases e0:i=0;.subst e0;exact⟨(DL p n.id).length-1,I,by rw[aDh I,Nat.mod_self]⟩
  exact⟨i-1,I,by rw[aDh I,ZC hi]⟩
 obtain⟨j,z,o⟩:=c;refine⟨(-(DL p n.id).getD ((j+1)%(DL p n.id).length) 0,(DL p n.id).getD j 0),?_,?_⟩;.unfold P7;rw[Gu,Fj];exact⟨n,hn,EP.2 ⟨j,FC.2 z,rfl⟩⟩
 show-(DL p n.id).getD ((j+1)%(DL p n.id).length) 0=d;rw[o,G5,DK hi,I7,e];omega
theorem Valid.ara:(P7 p p.nodes.length).length=(BZ p).length:=by rw[ahW,aEQ];exact h.aEn.length_eq
end
open Go.RowKit Go.Sort
theorem arb(v:Value)(l:List Int)(x:Int)(w:World)(h:Ints w v l):Calls prog 202 #[v,.int .i64 x] w λe w'=>e=.returned (.bool<|l.any λy=>y==x)/\AU w w':=by
 obtain⟨A,c,rfl,hn,hc,T⟩:=h;unfold maxLen at hc;obtain⟨q,M⟩:=BM<|l.any λy=>y==x;rw[M];have U:=V M;clear M;go_enter func202,ntmps202;go_wp2_with fail;go_loopw[5](λi wr=>∃k:Nat,k<=l.length/\i=.int .i64 k/\AU w wr/\∀j(hj:j<l.length),j<k->(λy=>y==x) l[j]=false)λi _=>l.length-(intOf i).toNat;case atStart=>exact⟨0,C9 _,rfl,bR w,λj _ h=>I⟩
 obtain⟨k,hk,rfl,hb,s⟩:=hrel;have K:=V hb;have z:=V s;clear hb s;by_cases hlt:k<l.length
 .obtain⟨b,o,rfl,hlb,c0⟩:=(T.mono K.1).int hlt;clear T;cases he:l[k]==x
  .go_wp2;go_roundw;case rel=>exact⟨k+1,I,BH,K.1,all_succ (p:=λy=>(λy=>y==x) y=false) z.1 hlt he⟩
   exact BJ
  have C:=UE l (λy=>y==x) k hlt he;rw[U.1]at C;subst C;go_wp2;go_ret;exact⟨rfl,K.1⟩
 have C:=Vf l (λy=>y==x) λj hj=>z.1 j hj I;rw[U.1]at C;subst C;go_wp2;go_ret;exact⟨rfl,K.1⟩
theorem ard(v:Value)(p:Pl)(w:World)(h:Cj w v p)(hv:Valid p):Calls prog 201 #[v] w<|aEO w<|BZ p:=by
 obtain⟨_,_,_,al,rfl,T,⟨An,cn,rfl,-⟩,⟨⟨Aa,ca,rfl,hn1,hn2,hR⟩,-⟩,⟨Af,cf,rfl,-⟩⟩:=h;unfold maxLen at hn2;have hall:al.length<=256:=by have hl:=hv.lim;unfold Jr at hl;simp only[Rl,IL]at hl;have h2:=hl.2;rw[T,D6]at h2;omega
 have HId:=V<|show∀k(hk:k<al.length),1<=al[k].1.id/\al[k].1.id<=1073741824 fromλk hk=>hv.IB (by rw[T];exact H6<|BG hk);obtain⟨q,hq⟩:=BM<|BZ p;rw[hq];have hq2:(al.map λx=>-x.1.id).reverse++al.map (λx=>x.1.id)=q:=by rw[<-hq];unfold BZ;rw[T,KP,KP];rfl
 have Hq:=V hq2;have HR:=V hR;generalize p.nodes.length=nn at*;generalize p.faces.length=nf at*;have k0:=DR<|(al.length:Int)-1;clear T hR hv hq hq2;go_enter func201,ntmps201;go_wp2_with fail;obtain⟨U,hW⟩:=BR<|w.alloc<|.cells #[.slice An nn cn,.slice Aa al.length ca,.slice Af nf cf] 26;have HB0:=V (show AU w U by rw[hW];exact bA (bR w) _);have DU:=V (show AO U w.heap.size 26 #[.slice An nn cn,.slice Aa al.length ca,.slice Af nf cf]by rw[hW];exact AO.made rfl _ _);rw[<-hW];clear hW;have hz0:=DU.1.lt;go_loopw[3,4](λs i wr=>∃m:Nat,m<=al.length/\i=.int .i64 ((m:Int)-1)/\Own wr U.heap.size 3 1 DF s ((al.drop m).map λx=>-x.1.id).reverse/\AU U wr)λ_ i _=>(intOf i+1).toNat;case atStart=>exact⟨al.length,Dh _,rfl,by rw[aCf];exact Own.nil _ _ _ _ _,bR U⟩
 obtain⟨m,hm,rfl,ho,hb⟩:=hrel;have Ho:=V ho;have Hb:=V hb;have X1:=DU.1.keep hb;have hzr:=hb.size;clear ho hb;obtain⟨Au,Aw,Az,BA,-⟩:=X1.BF;by_cases hlt:0<m;case pos=>
  obtain⟨j,rfl⟩:∃j,m=j+1:=⟨m-1,I⟩;have hj:j<al.length:=I;obtain⟨b,o,rfl,hlb,c0,-⟩:=(HR.1.mono<|J HB0.1 Hb.1).ar hj;have hid:=HId.1 j hj;have z:((al.drop j).map λx=>-x.1.id).reverse=((al.drop<|j+1).map λx=>-x.1.id).reverse++[-al[j].1.id]:=by rw[Ql hj,FB,aa7]
  have Ce:=V z;have C:(((al.drop<|j+1).map λx=>-x.1.id).reverse).length<=256:=by simp;omega
  have Jw:=V C;clear z C;generalize((al.drop<|j+1).map λx=>-x.1.id).reverse=L at*;generalize al[j].1.id=d at*;have k1:=DR<|-d;have k2:((j+1:Nat):Int)-1=(j:Int):=I;have k3:(0:Int)<=(j:Int):=I;have k4:(j:Int)<al.length:=I;have k5:=DR<|(j:Int)-1;rw[k2];obtain⟨s,rfl⟩:=BR u3;clear hid;go_wp2_with(at_builtin;refine FV _ rfl (.tmp 14) (.tmp 22) _ rfl (base:=U.heap.size) J3 IV J4 rfl (Own.alloc Ho.1 _) rfl (l2:=[-d]) (Sl.lit (n:=1) (AO.made rfl _ _) rfl<|DC I) xR xR D8 ?_;intro v1 w1 K M Ui;have Ko:=V K;have HB1:=V<|Below.grown (Below.alloc Hb.1 I _) M D8<|λg hg=>(Ho.1.lt g hg).1;clear K M Ui);go_roundw;case rel=>exact⟨j,I,rfl,by rw[Ce.1];exact Ko.1,HB1.1⟩
  simp[intOf]
 have h0:m=0:=I;subst h0;have k3:¬(0:Int)<=((0:Nat):Int)-1:=I;rw[yI]at Ho;generalize hL1:(al.map λx=>-x.1.id).reverse=L1 at*;have hl1:L1.length<=256:=by rw[<-hL1];simp;omega
 have WQ:=V hl1;clear hL1 hl1;have Oa:=V Hq.1;clear Hq;go_wp2_with fail;obtain⟨wo,rfl⟩:=BR wr;obtain⟨s0,rfl⟩:∃s:Value,s=u3:=⟨_,rfl⟩;go_loopw[3,5](λs i wr=>∃k:Nat,k<=al.length/\i=.int .i64 k/\Own wr U.heap.size 3 1 DF s (L1++(al.take k).map λx=>x.1.id)/\AU U wr)λ_ i _=>al.length-(intOf i).toNat;case atStart=>exact⟨0,C9 _,rfl,by simpa using Ho.1,Hb.1⟩
 obtain⟨k,hk,rfl,ho,hb⟩:=hrel;have cO:=V ho;have Hb2:=V hb;replace X1:=DU.1.keep hb;have arf:=hb.size;clear ho hb Au Aw Az BA;try clear Au Aw Az BA
 obtain⟨Au,Aw,Az,BA,-⟩:=X1.BF;by_cases hlt2:k<al.length;case pos=>
  obtain⟨b,o,rfl,hlb,c0,-⟩:=(HR.1.mono<|J HB0.1 Hb2.1).ar hlt2;have z:L1++(al.take<|k+1).map (λx=>x.1.id)=(L1++(al.take k).map λx=>x.1.id)++[al[k].1.id]:=by rw[Eu hlt2,Gt,Jv];rfl
  have Ce:=V z;have C:(L1++(al.take k).map λx=>x.1.id).length<=512:=by have:=WQ.1;simp only[EK,D6,JF];omega
  have Jw:=V C;clear z C;generalize L1++(al.take k).map (λx=>x.1.id)=L at*;generalize al[k].1.id=d at*;have k4:(k:Int)<al.length:=I;obtain⟨s,rfl⟩:=BR u3;go_wp2_with(at_builtin;refine FV _ rfl (.tmp 31) (.tmp 38) _ rfl (base:=U.heap.size) J3 IV J4 rfl (Own.alloc cO.1 _) rfl (l2:=[d]) (Sl.lit (n:=1) (AO.made rfl _ _) rfl<|DC I) xR xR D8 ?_;intro v1 w1 K M Ui;have Ko:=V K;have HB1:=V<|Below.grown (Below.alloc Hb2.1 I _) M D8<|λg hg=>(cO.1.lt g hg).1;clear K M Ui);go_roundw;case rel=>exact⟨k+1,I,BH,by rw[Ce.1];exact Ko.1,HB1.1⟩
  exact BJ
 have hkk:k=al.length:=I;subst hkk;have ho2:=cO.1;rw[Gu,Oa.1]at ho2;obtain⟨A,c,rfl,-⟩:=Own.shape ho2;have EZ:=V ho2;clear ho2 cO;go_wp2;go_ret;exact⟨A,c,rfl,J HB0.1 Hb2.1,EZ.1.EN I⟩
open Go.RowKit Go.Sort
def NS(p:Pl)(d:Int):Pt:=(VU p d).getD 1 AY
theorem Valid.arh{p:Pl}(h:Valid p){n d:Int}(hd:d∈Dl p.AP n):NS p d=E8 p d:=by
 obtain⟨a,c,e⟩:=TV.1 hd;have hid:=h.IB c;unfold NS;rcases e with⟨rfl,-⟩|⟨rfl,-⟩;.rw[aAr h<|h.sQ c,AZ I,h.mQ c]
 rw[aAr h<|h.zi c,AX I,h.gy c];have j:=En p a;simp only[G5];rw[List.getElem?_reverse I];congr 2;omega
theorem ari(v:Value)(p:Pl)(d:Int)(w:World)(h:Cj w v p)(hs:Short p)(hd:-9223372036854775808<d/\d<=9223372036854775807):Calls prog 274 #[v,.int .i64 d] w λe w'=>e=.returned (.agg #[.int .i64 (NS p d).x,.int .i64 (NS p d).y])/\AU w w':=by
 have K:=V λW(hW:AU w W)=>aiK v p d W (h.mono hW) hs hd;obtain⟨_,_,_,al,rfl,M,⟨An,cn,rfl,-⟩,⟨⟨Aa,ca,rfl,-⟩,-⟩,⟨Af,cf,rfl,-⟩⟩:=h;unfold NS;generalize al.length=na at*;generalize p.nodes.length=nn at*;generalize p.faces.length=nf at*;clear M hs;generalize VU p d=P at*;obtain⟨q,T⟩:=BM<|P.getD 1 AY;rw[T];have z:=V T;clear T;unfold Zj at K;go_enter func274,ntmps274;go_wp2_with fail;refine(K.1 _<|bA (bA (bR w) _) _).mono ?_;rintro e w1⟨A1,c1,rfl,c,o⟩;have B1:=V<|J (bA (bA (bR w) _) _) c;have U:AO w1 (w.heap.size+1) 50 #[.int .i64 0,.int .i64 0]:=(AO.made Ak _ _).keep c;obtain⟨Aq,cq,he,hq1,hq2,VW⟩:=o.sl;injection he with C e2 e3;subst C e3;clear e2;unfold maxLen at hq2;have jO:=V VW;clear c o VW K hd;obtain⟨Bg,Bq,CP,DX,EU⟩:=U.BL;by_cases hl:P.length<2;case pos=>
  have j:P.getD 1 AY=AY:=by simp only[G5,aN<|show P.length<=1 by omega,yF]
  rw[z.1]at j;subst j;have hl':(P.length:Int)<2:=I;clear z;generalize P.length=n at*;go_wp2_with fail;refine nG (t:=50) (g:=w.heap.size+1) (cs:=#[.int .i64 0,.int .i64 0]) rfl UR rfl rfl (AO.O9 U) ⟨rfl,?_⟩;have Bw:=B1.1;exact ER
 have s:1<P.length:=I;obtain⟨b1,o1,rfl,hlb,e0,C⟩:=jO.1.pt s;have j:P.getD 1 AY=P[1]:=by simp only[G5,DK s,I7]
 rw[z.1]at j;rw[<-j]at e0 C;clear j jO z;simp only[Nat.one_mul]at e0 C;have hl':¬(P.length:Int)<2:=I;have hl2:(1:Int)<(P.length:Int):=I;generalize P.length=n at*;go_wp2_with fail;refine nG (t:=50) (g:=w.heap.size+1) (cs:=#[.int .i64 q.x,.int .i64 q.y]) rfl UR rfl rfl (AO.O9 U) ⟨rfl,?_⟩;have Bw:=B1.1;exact ER
def ZW(lt:Int->Int->Bool)(D:List Int)(x:Int):Nat:=D.countP λy=>lt y x
def aAb(lt:Int->Int->Bool)(D:List Int)(k:Nat):Option Int:=D.find? λx=>ZW lt D x==k
theorem arj{lt:Int->Int->Bool}{S:List Int}(T:S.Pairwise λa b=>lt a b=true/\lt b a=false)(o:∀x∈S,lt x x=false){k:Nat}(hk:k<S.length):ZW lt S S[k]=k:=by
 have K:=FT.1 T;obtain⟨c,M⟩:=BM S[k];have e:S=S.take k++S[k]::S.drop (k+1):=by rw[<-Ql hk,gK]
 have h1:(S.take k).countP (λy=>lt y S[k])=k:=by have h2:(S.take k).countP (λy=>lt y S[k])=(S.take k).length:=List.countP_eq_length.2 (λa s=>by obtain⟨j,z,rfl⟩:=Dy.1 s;rw[JF]at z;rw[List.getElem_take];exact(K j k I hk I).1);rw[h2,JF];omega
 have h3:(S.drop<|k+1).countP (λy=>lt y S[k])=0:=aCh.2 (λa s=>by obtain⟨j,z,rfl⟩:=Dy.1 s;rw[kZ]at z;rw[List.getElem_drop];have:=(K k (k+1+j) hk I I).2;rw[this];decide);unfold ZW;rw[M]at h1 h3 e⊢;have C:=o c<|M▸BG hk;conv=>lhs;rw[e]
 rw[aa8,List.countP_cons,h1,h3,C];simp
theorem ark{lt:Int->Int->Bool}{D:List Int}(ho:dw lt D)(hn:D.Nodup):(sortB lt D).Pairwise λa b=>lt a b=true/\lt b a=false:=by
 obtain⟨o,C⟩:=mW ho;have s:(sortB lt D).Nodup:=o.nodup_iff.2 hn;rw[FT]at C⊢;intro i j hi z c;have h1:=C i j hi z c;refine⟨?_,h1⟩;cases h:lt (sortB lt D)[i] (sortB lt D)[j];.have e:=ho.tri _ (o.mem_iff.1<|BG hi) _ (o.mem_iff.1<|BG z) h h1;have:=(FT.1 s) i j hi z c;exact absurd e this
 rfl
theorem arl{lt:Int->Int->Bool}{D:List Int}(ho:dw lt D)(hn:D.Nodup){k:Nat}(hk:k<D.length):aAb lt D k=(sortB lt D)[k]?:=by
 obtain⟨o,-⟩:=mW ho;have M:=ark ho hn;have C:∀x∈sortB lt D,lt x x=false:=λx T=>by
  have s:=o.mem_iff.1 T;cases h:lt x x;.rfl
  have:=ho.asym x s x s h;rw[h]at this;cases this
 have c:k<(sortB lt D).length:=by rw[o.length_eq];exact hk
 have K:∀j(z:j<(sortB lt D).length),ZW lt D (sortB lt D)[j]=j:=λj z=>by have:=arj M C z;unfold ZW at this⊢;rw[<-o.countP_eq];exact this
 rw[DK c];unfold aAb;cases h:D.find? λx=>ZW lt D x==k with|none=>have:=List.find?_eq_none.1 h _<|o.mem_iff.1<|BG c;rw[K k c]at this;simp at this|some x=>
  have h1:=List.find?_some h;have h2:=Vz h;obtain⟨j,z,rfl⟩:=Dy.1<|o.mem_iff.2 h2;rw[K j z]at h1;have:j=k:=by simpa using h1
  subst this;rfl
theorem arn(p:Pl)(o:Pt)(d e:Int):ltD p o d e=dS o (E8 p d) (E8 p e):=amx _ _ _
open Go.RowKit Go.Sort
theorem aro(v:Value)(p:Pl)(n:Int)(w:World)(h:Cj w v p)(hv:Valid p):Calls prog 250 #[v,.int .i64 n] w<|aEO w<|DL p n:=by
 have kE:=V λW(hW:AU w W)=>afB v p n W<|h.mono hW;have HSc:=V λd(hd:-9223372036854775808<d/\d<=9223372036854775807)W(hW:AU w W)=>ari v p d W (h.mono hW) hv.short hd;obtain⟨_,_,_,al,rfl,hpa,⟨An,cn,rfl,-⟩,⟨⟨Aa,ca,rfl,hn1,hn2,hR⟩,-⟩,⟨Af,cf,rfl,-⟩⟩:=h;unfold maxLen at hn2;obtain⟨HR,HV,Iy⟩:=CB hR hv hpa;have hall:al.length<=256:=by have hl:=hv.lim;unfold Jr at hl;simp only[Rl,IL]at hl;have h2:=hl.2;rw[hpa,D6]at h2;omega
 have HId:=V<|show∀k(hk:k<al.length),1<=al[k].1.id/\al[k].1.id<=1073741824 fromλk hk=>hv.IB (by rw[hpa];exact H6<|BG hk);generalize hnn:p.nodes.length=nn at*;generalize p.faces.length=nf at*;obtain⟨q,hq⟩:=BM<|DL p n;rw[hq];have Hq:=V hq;clear hpa hR hv hq hnn;go_enter func250,ntmps250;go_wp2_with fail;refine(kE.1 _<|bA (bR w) _).mono ?_;rintro e w1⟨rfl,T⟩;have U:AO w1 w.heap.size 26 #[.slice An nn cn,.slice Aa al.length ca,.slice Af nf cf]:=(AO.made rfl _ _).keep T;have B1:=V<|J (bA (bR w) _) T;clear T;unfold nV yX;cases hfn:JW p.nodes n with
 |none=>
  have hf:q=[]:=by rw[<-Hq.1];unfold DL;rw[hfn]
  subst hf;clear hfn;simp only[yF,lI];go_wp2;go_ret;exact⟨none,0,rfl,bA B1.1 _,Own.nil _ _ _ _ _⟩|some nd=>
  have hnd:nd∈p.nodes/\nd.id=n:=⟨Vz hfn,by have:=List.find?_some hfn;simpa using this⟩;obtain⟨hnm,rfl⟩:=hnd;have hAr:=HV.1.aEk hnm;rw[Hq.1]at hAr;have Jk:=V hAr;have Ob:=V hnm;clear hfn hAr hnm Hq;simp only[I7,Xh];go_upto_region 4 with fail;obtain⟨W5,hW⟩:∃W:World,W=w1.alloc (.cells #[.int .i64 nd.id,.int .i64 nd.pt.x,.int .i64 nd.pt.y] 56):=⟨_,rfl⟩;obtain⟨B5,D5,CW⟩:=CB (show AU w W5 by rw[hW];exact bA B1.1 _) (show AO W5 w1.heap.size 56 #[.int .i64 nd.id,.int .i64 nd.pt.x,.int .i64 nd.pt.y]by rw[hW];exact AO.made rfl _ _) (show AO W5 w.heap.size 26 #[.slice An nn cn,.slice Aa al.length ca,.slice Af nf cf]by rw[hW];exact U.alloc _);rw[<-hW];clear hW U;obtain⟨g5,hg5⟩:=BM w1.heap.size;rw[hg5]at D5⊢;clear hg5 B1;go_wp2_with fail;go_loopw[7,8](λs i wr=>∃k:Nat,k<=al.length/\i=.int .i64 k/\Own wr W5.heap.size 3 1 DF s (Dl (p.AP.take k) nd.id)/\AU W5 wr)λ_ i _=>al.length-(intOf i).toNat;case atStart=>exact⟨0,C9 _,rfl,by simpa[Dl]using Own.nil W5 W5.heap.size 3 1 DF,bR W5⟩
  case round=>
   obtain⟨k,hk,rfl,ho,hb⟩:=hrel;have Ho:=V ho;have Hb:=V hb;have U:=CW.1.keep hb;have hzr:=hb.size;clear ho hb;obtain⟨BX,Bf,Bh,CS,-⟩:=U.BF;by_cases hlt:k<al.length;case neg=>
    have hkk:k=al.length:=I;subst hkk;have ho:=Ho.1;rw[show p.AP.take al.length=p.AP from Ip<|by rw[Iy.1,D6];omega]at ho;obtain⟨A7,c7,rfl,h71,h72⟩:=Own.shape ho;unfold maxLen at h72;have jQ:=V ho;clear ho Ho;go_wp2_with fail;have hol:=aAT p.AP nd.id;rw[show p.AP.length=al.length by rw[Iy.1,D6]]at hol;obtain⟨Uj,ahX,arp,ahY⟩:=D9 (show(Dl p.AP nd.id).length<=512 by omega) (HV.1.aA0 Ob.1) (HV.1.ac6 (n:=nd.id))<|show∀d∈Dl p.AP nd.id,NS p d=E8 p d fromλd hd=>HV.1.arh hd;have aAc:=V (show∀d∈Dl p.AP nd.id,-9223372036854775808<d/\d<=9223372036854775807 fromλd hd=>by obtain⟨a,ha,e⟩:=TV.1 hd;have:=HV.1.IB ha;rcases e with⟨rfl,-⟩|⟨rfl,-⟩<;>omega);obtain⟨arq,ahZ,Bo⟩:=CB (D5.1.keep Hb.1) U<|J B5.1 Hb.1;have adD:=V (show Row wr A7<|(Dl p.AP nd.id).flatMap DF by obtain⟨A',c',he,_,_,hr⟩:=jQ.1.sl;injection he with e1 e2 e3;subst e1;exact hr);clear hol U BX Bf Bh CS hlt jQ;generalize Dl p.AP nd.id=D at*;obtain⟨wo,rfl⟩:=BR wr;go_loopw[9,10](λs i wr=>∃k:Nat,k<=D.length/\i=.int .i64 k/\Own wr wo.heap.size 50 2 Ep s ((D.take k).map<|NS p)/\AU wo wr)λ_ i _=>D.length-(intOf i).toNat;case atStart=>exact⟨0,C9 _,rfl,Own.nil _ _ _ _ _,bR wo⟩
    obtain⟨k,hk2,rfl,ho,hb⟩:=hrel;have cO:=V ho;have Hb2:=V hb;have U:=ahZ.1.keep hb;have arf:=hb.size;clear ho hb;try clear BX Bf Bh CS
    obtain⟨BX,Bf,Bh,CS,-⟩:=U.BF;by_cases hlt:k<D.length;case neg=>
     have hkk:k=D.length:=I;subst hkk;have ho:=cO.1;rw[Gu]at ho;obtain⟨A9,c9,rfl,h91,h92⟩:=Own.shape ho;unfold maxLen at h92;rw[D6]at h91;rw[show(List.map (NS p) D).length=D.length from D6 _];have TK:=V ho;clear ho cO;clear U BX Bf Bh CS hlt;go_wp2_with fail;obtain⟨ws,rfl⟩:=BR wr;have aha:=V (show Row ws A9<|(D.map<|NS p).flatMap Ep by obtain⟨A',c',he,_,_,hr⟩:=TK.1.sl;injection he with e1 e2 e3;subst e1;exact hr);obtain⟨ars,aru,Bs⟩:=CB (adD.1.mono Hb2.1) (arq.1.keep Hb2.1)<|J Bo.1 Hb2.1;obtain⟨lt,hlt'⟩:∃lt,ltD p nd.pt=lt:=⟨_,rfl⟩;have HLt:=V (show∀d∈D,∀e∈D,dS nd.pt (NS p d) (NS p e)=lt d e fromλd hd e he=>by rw[<-hlt',arn,ahY.1 d hd,ahY.1 e he]);have XP:=V (show∀m,m<D.length->aAb lt D m=(sortB lt D)[m]? fromλm hm=>by rw[<-hlt'];exact arl ahX.1 arp.1 hm);have hsl:(sortB lt D).length=D.length:=by rw[<-hlt'];exact(mW ahX.1).1.length_eq
     have har:=Jk.1;rw[hlt']at har;have cZ:=V λa b W=>as5 nd.pt a b W;unfold BD at cZ;generalize sortB lt D=S at*;subst har;have RD:=V hsl;clear hlt' hsl Jk;go_loopw[11](λs wr=>∃m:Nat,m<=D.length/\(∃A c,s=.slice A m c)/\Own wr ws.heap.size 3 1 DF s (q.take m)/\AU ws wr)λs _=>D.length-lenV s;case atStart=>exact⟨0,C9 _,⟨none,0,rfl⟩,Own.nil _ _ _ _ _,bR ws⟩
     obtain⟨m,hm,⟨A,c,rfl⟩,ho,hb⟩:=hrel;have aAE:=V ho;have Hb3:=V hb;have ayx:=hb.size;clear ho hb;by_cases hlt:m<D.length;case neg=>have hmm:m=D.length:=I;subst hmm;have ho:=aAE.1;rw[Ip<|by have:=RD.1;omega]at ho;have HO:=V ho;clear ho aAE;go_wp2;go_ret;exact⟨A,c,by rw[RD.1];rfl,J Bs.1 Hb3.1,by rw[RD.1];exact HO.1.EN<|by have:=Bs.1.size;omega⟩
     have km:(m:Int)<D.length:=I;have Jl:=V<|XP.1 m hlt;have TP:m<q.length:=by have:=RD.1;omega
     have aj7:FK ¬∀j(hj:j<D.length),(ZW lt D D[j]==m)=false:=V λh=>by have h1:aAb lt D m=none:=List.find?_eq_none.2 (λx hx=>by obtain⟨j,hj,rfl⟩:=Dy.1 hx;rw[h j hj];decide);rw[Jl.1,DK TP]at h1;cases h1
     go_wp2_with fail;go_loopw[11,12](λs i wx=>∃M:Nat,M<=D.length/\i=.int .i64 M/\s=.slice A m c/\Own wx ws.heap.size 3 1 DF (.slice A m c) (q.take m)/\AU ws wx/\∀j(hj:j<D.length),j<M->(ZW lt D D[j]==m)=false)λ_ i _=>D.length-(intOf i).toNat;case atStart=>exact⟨0,C9 _,rfl,rfl,aAE.1,Hb3.1,λ_ _ h=>I⟩
     obtain⟨M,hi,rfl,rfl,ho,hb,hno⟩:=hrel;obtain⟨Ho4,Hb4,Hno⟩:=CB ho hb hno;have ayy:=hb.size;clear ho hb hno;by_cases hil:M<D.length;case neg=>exact absurd (λj hj=>Hno.1 j hj I) aj7.out
     have ki:(M:Int)<D.length:=I;go_wp2_with fail;obtain⟨di,hdi⟩:=BM D[M];have SN:=V hdi;clear hdi;obtain⟨wx,rfl⟩:=BR wr;go_loopw[13,14](λt u wy=>∃j:Nat,j<=D.length/\u=.int .i64 j/\t=.int .i64 ((D.take j).countP<|λy=>lt y di:Nat)/\AU wx wy)λ_ u _=>D.length-(intOf u).toNat;case atStart=>exact⟨0,C9 _,rfl,rfl,bR wx⟩
     obtain⟨j,hj,rfl,rfl,hb⟩:=hrel;have C:=V hb;clear hb;by_cases hjl:j<D.length;case neg=>
      have hjj:j=D.length:=I;subst hjj;rw[Gu];obtain⟨rk,hrk⟩:=BM<|D.countP<|λy=>lt y di;rw[hrk];have aj8:ZW lt D D[M]=rk:=by rw[SN.1];exact hrk
      have HRk:=V aj8;have hrl:rk<=D.length:=by rw[<-hrk];exact List.countP_le_length
      clear hrk aj8;have hdl:=Uj.1;by_cases hrm:rk=m
      .subst hrm;have hqm:q.take (rk+1)=q.take rk++[di]:=by
        have hg:q[rk]?=some di:=by rw[<-Jl.1];unfold aAb;rw[yZ D _ M hil (λj hj hji=>Hno.1 j hj hji)<|by simpa using HRk.1,SN.1]
        rw[List.take_add_one,hg];rfl
       have HQm:=V hqm;have htl:(q.take rk).length=rk:=by rw[JF];omega
       have U6:=V htl;clear hqm htl;obtain⟨bd,od,hAd,hld,c0⟩:=(ars.1.mono<|J Hb4.1 C.1).int hil;subst hAd;rw[SN.1]at c0;have Gf:=V<|Ho4.1.keep C.1;have QU:=C.1.size;go_wp2_with(at_builtin;refine FV _ rfl (.tmp 114) (.tmp 119) _ rfl (base:=ws.heap.size) J3 IV J4 rfl (Own.alloc Gf.1 _) rfl (l2:=[di]) (Sl.lit (n:=1) (AO.made rfl _ _) rfl<|DC I) xQ xQ D8 ?_;intro v9 w9 LU MF YQ;rw[<-HQm.1]at LU;obtain⟨A0,c9',Uk,-⟩:=Own.shape LU;rw[show(q.take<|rk+1).length=rk+1 by rw[HQm.1,EK,U6.1];rfl]at Uk;subst Uk;have arv:=V LU;have arw:=V<|bG (bA (J Hb4.1 C.1) _) MF<|λg hg=>(Gf.1.lt g hg).1;clear LU MF YQ);exact⟨⟨rk+1,I,⟨A0,c9',rfl⟩,arv.1,arw.1⟩,by simp only[lenV];omega⟩
      have hne:((rk:Int)==(m:Int))=false:=by simpa using show¬(rk:Int)=m by omega
      have hsucc:∀j(hj:j<D.length),j<M+1->(ZW lt D D[j]==m)=false:=λj hj hji=>by
       by_cases e:j=M;.subst e;rw[HRk.1];simpa using hrm
       exact Hno.1 j hj I
      have QV:=V hsucc;clear hsucc hrm;by_cases hlast:M+1=D.length;.exact absurd (λj hj=>QV.1 j hj I) aj7.out
      have hl2:((M:Int)==(D.length:Int)-1)=false:=by simpa using show¬(M:Int)=(D.length:Int)-1 by omega
      go_wp2;go_roundw;case rel=>exact⟨M+1,I,BH,rfl,Ho4.1.keep C.1,J Hb4.1 C.1,QV.1⟩
      exact BJ
     obtain⟨b5,o5,YR,oK,e0,e1⟩:=(aha.1.mono<|J Hb4.1 C.1).pt (k:=j) (by rw[D6];exact hjl);subst YR;obtain⟨b6,o6,he6,-,f0,f1⟩:=(aha.1.mono<|J Hb4.1 C.1).pt (k:=M) (by rw[D6];exact hil);simp only[JU,Addr.mk.injEq,and_true]at he6;obtain⟨rfl,rfl⟩:=he6;rw[Ib]at e0 e1 f0 f1;have hl:dS nd.pt (NS p D[j]) (NS p D[M])=lt D[j] di:=by rw[HLt.1 D[j] (BG hjl) D[M]<|BG hil,SN.1]
     have WQ:=V<|cZ.1 (NS p D[j])<|NS p D[M];rw[hl]at WQ;have hst:(D.take<|j+1).countP (λy=>lt y di)=(D.take j).countP (λy=>lt y di)+if lt D[j] di=true then 1 else 0:=by rw[Eu hjl,aa8,List.countP_singleton]
     have hcl:(D.take j).countP (λy=>lt y di)<=j:=Du List.countP_le_length<|aDx _ _;have hdl:=Uj.1;have Ce:=V hst;clear hst hl;generalize(D.take j).countP (λy=>lt y di)=ct at*;generalize lt D[j] di=z at*;generalize NS p D[j]=pj at*;generalize NS p D[M]=pi at*;have kj:(j:Int)<D.length:=I;have X5:=aru.1.keep<|J Hb4.1 C.1;obtain⟨CJ,CO,CQ,Gi,-⟩:=X5.BF;go_upto_region 26 with fail;refine CZ wr (.run 10 0 0<|.call 10 2047<|.done) λCG QR Ae Aj hS=>?_;iterate 10 refine Ah ?_
     refine FM (WQ.1 _) ?_;clear hS;intro Bv Bj hS;refine CX ?_;clear hS Aj Ae;intro hB;clear X5 CJ CO CQ Gi e0 e1 f0 f1 kj oK;cases z
     .go_wp2;go_roundw;case rel=>exact⟨j+1,I,BH,by rw[Ce.1];rfl,J C.1 hB⟩
      exact BJ
     go_wp2;go_roundw;case rel=>exact⟨j+1,I,BH,by rw[Ce.1,AZ rfl];go_num,J C.1 hB⟩
     exact BJ
    obtain⟨bd,od,rfl,hld,-⟩:=adD.1.int hlt;obtain⟨b_,o_,P8,-,c0⟩:=(adD.1.mono Hb2.1).int hlt;simp only[JU,Addr.mk.injEq,and_true]at P8;obtain⟨rfl,rfl⟩:=P8;have hwo:w.heap.size<wo.heap.size:=ahZ.1.lt;have MK:=V<|HSc.1 D[k]<|aAc.1 _<|BG hlt;have hst:(D.take<|k+1).map (NS p)=(D.take k).map (NS p)++[NS p D[k]]:=by rw[Eu hlt,Gt];rfl
    have Ce:=V hst;have Jw:=V (show((D.take k).map<|NS p).length<=512 by have:=Uj.1;rw[D6,JF];omega);clear hst;generalize(D.take k).map (NS p)=L at*;generalize NS p D[k]=p2 at*;generalize D[k]=d at*;have k4:(k:Int)<D.length:=I;obtain⟨s,rfl⟩:=BR u9;go_upto_region 16 with fail;refine Pe wo.heap.size wr (.run 6 0 0<|.call 6 127<|.call 7 255<|.call 8 511<|.take 9 1023<|.done) λCG QR Ae Aj hS=>?_;iterate 6 refine Ah ?_
    refine BP ?_;clear hS;intro K hK AQ;go_simp;refine(MK.1 _<|J (J Bo.1 Hb2.1)<|bD<|bR wr).mono ?_;rintro e wy⟨rfl,hby⟩;have hS:Fh wo.heap.size wr wy:=Below.trans AQ.out<|hby.mono (by have:=Below.size AQ.out;omega);have hzy:=hby.size;simp only[World.size_drew]at hzy;have kF:=V<|show AU wr wy from J (bD<|bR wr) hby;clear hby;clear AQ;refine hK.out _ _ hS λ_=>?_;clear hK K;try simp only[pu]
    refine BP ?_;clear hS;intro K hK AQ;go_simp;refine hK.out _ _ (Gs I AQ.out _) λhS=>?_;clear hK K AQ;try simp only[pu]
    refine BP ?_;clear hS;intro K hK AQ;refine Ir (.tmp 71) (.tmp 78) _ rfl (base:=wo.heap.size) (l:=L) (l2:=[p2]) LZ LK La rfl (Own.alloc (cO.1.keep kF.1) _) rfl (EL.one (x:=p2)<|AO.made rfl _ _) xR xR D8 ?_;intro v9 wn QW hgn cu;have dB:=V QW;have hS:Fh wo.heap.size wr wn:=Below.grown (Below.alloc (kF.1.mono I) I _) hgn D8 λg hg=>(cO.1.lt g hg).1;clear QW hgn cu;clear AQ;refine hK.out _ _ hS λ_=>?_;clear hK K;try simp only[pu]
    refine Ah ?_;refine L9 ?_;clear hS Aj Ae;intro hB;go_wp2;go_roundw;case rel=>exact⟨k+1,I,BH,by rw[Ce.1];exact dB.1,Below.trans Hb2.1 hB⟩
    exact BJ
   have hst:Dl (p.AP.take<|k+1) nd.id=Dl (p.AP.take k) nd.id++((if al[k].1.fr=nd.id then[al[k].1.id]else[])++if al[k].1.dst=nd.id then[-al[k].1.id]else[]):=by
    have h1:k<p.AP.length:=by rw[Iy.1,D6];exact hlt
    have h2:=ahm p.AP nd.id k h1;have h3:p.AP[k]=al[k].1:=by simp only[Iy.1,Ib]
    rw[h3]at h2;exact h2
   have hid:=HId.1 k hlt;have hlen:=aAT (p.AP.take k) nd.id;have hlen2:(p.AP.take k).length<=k:=aDx _ _;obtain⟨b,o,rfl,hlb,c0,c1,c2,-⟩:=(HR.1.mono<|J B5.1 Hb.1).ar hlt;have Ce:=V hst;have Jw:=V (show(Dl (p.AP.take k) nd.id).length<=512 by omega);obtain⟨D1,hD1⟩:=BM<|Dl (p.AP.take<|k+1) nd.id;rw[hD1]at Ce;have HD1:=V hD1;clear hst hlen hlen2 hD1;generalize Dl (p.AP.take k) nd.id=D0 at*;obtain⟨a,ha⟩:=BM al[k].1;rw[ha]at hid Ce c0 c1 c2;have oL:=V ha;clear ha;have hneg:=DR<|-a.id;have k4:(k:Int)<al.length:=I;clear hid;obtain⟨s,rfl⟩:=BR u7;cases T:a.fr==nd.id;case false=>
    cases hb2:a.dst==nd.id;case false=>
     have hD:D1=D0:=by rw[Ce.1,AX<|by simpa using T,AX l9];simp
     go_wp2;go_roundw;case rel=>exact⟨k+1,I,BH,by rw[HD1.1.trans hD];exact Ho.1,Hb.1⟩
     exact BJ
    have hD:D1=D0++[-a.id]:=by rw[Ce.1,AX<|by simpa using T,AZ l9];simp
    go_wp2_with
     (at_builtin;refine FV _ rfl (.tmp 55) (.tmp 63) _ rfl (base:=W5.heap.size) (l:=D0) J3 IV J4 rfl (Own.alloc Ho.1 _) rfl (l2:=[-a.id]) (Sl.lit (n:=1) (AO.made rfl _ _) rfl<|DC I) kY kY D8 ?_;intro v9 w9 LU MF YQ;have TK:=V LU;have Ja:=V<|Below.grown (Below.alloc Hb.1 I _) MF D8<|λg hg=>(Ho.1.lt g hg).1;have hz9:=Ja.1.size;replace U:=CW.1.keep Ja.1;have HC9:=V<|HR.1.mono<|J B5.1 Ja.1;obtain⟨b_,o_,P8,-,d0,d1,d2,-⟩:=HC9.1.ar hlt;simp only[JU,Addr.mk.injEq,and_true]at P8;obtain⟨rfl,rfl⟩:=P8;rw[oL.1]at d0 d1 d2;clear LU MF YQ BX Bf Bh CS;try clear BX Bf Bh CS
      obtain⟨BX,Bf,Bh,CS,-⟩:=U.BF);go_roundw;case rel=>exact⟨k+1,I,BH,by rw[HD1.1.trans hD];exact TK.1,Ja.1⟩
    exact BJ
   cases hb2:a.dst==nd.id;case false=>
    have hD:D1=D0++[a.id]:=by rw[Ce.1,AZ<|by simpa using T,AX l9];simp
    go_wp2_with
     (at_builtin;refine FV _ rfl (.tmp 38) (.tmp 45) _ rfl (base:=W5.heap.size) (l:=D0) J3 IV J4 rfl (Own.alloc Ho.1 _) rfl (l2:=[a.id]) (Sl.lit (n:=1) (AO.made rfl _ _) rfl<|DC I) kY kY D8 ?_;intro v8 w8 ZX P9 aAd;have XY:=V ZX;have Js:=V<|Below.grown (Below.alloc Hb.1 I _) P9 D8<|λg hg=>(Ho.1.lt g hg).1;have aAe:=Js.1.size;replace U:=CW.1.keep Js.1;have HC8:=V<|HR.1.mono<|J B5.1 Js.1;obtain⟨b_,o_,P8,-,d0,d1,d2,-⟩:=HC8.1.ar hlt;simp only[JU,Addr.mk.injEq,and_true]at P8;obtain⟨rfl,rfl⟩:=P8;rw[oL.1]at d0 d1 d2;clear ZX P9 aAd BX Bf Bh CS;try clear BX Bf Bh CS
      obtain⟨BX,Bf,Bh,CS,-⟩:=U.BF);go_roundw;case rel=>exact⟨k+1,I,BH,by rw[HD1.1.trans hD];exact XY.1,Js.1⟩
    exact BJ
   have hD:D1=D0++[a.id]++[-a.id]:=by rw[Ce.1,AZ<|by simpa using T,AZ l9];simp
   go_upto_region 10 with
    (at_builtin;refine FV _ rfl (.tmp 38) (.tmp 45) _ rfl (base:=W5.heap.size) (l:=D0) J3 IV J4 rfl (Own.alloc Ho.1 _) rfl (l2:=[a.id]) (Sl.lit (n:=1) (AO.made rfl _ _) rfl<|DC I) kY kY D8 ?_;intro v8 w8 ZX P9 aAd;have XY:=V ZX;have Js:=V<|Below.grown (Below.alloc Hb.1 I _) P9 D8<|λg hg=>(Ho.1.lt g hg).1;have aAe:=Js.1.size;replace U:=CW.1.keep Js.1;have HC8:=V<|HR.1.mono<|J B5.1 Js.1;obtain⟨b_,o_,P8,-,d0,d1,d2,-⟩:=HC8.1.ar hlt;simp only[JU,Addr.mk.injEq,and_true]at P8;obtain⟨rfl,rfl⟩:=P8;rw[oL.1]at d0 d1 d2;clear ZX P9 aAd BX Bf Bh CS;try clear BX Bf Bh CS
     obtain⟨BX,Bf,Bh,CS,-⟩:=U.BF);have ayz:=XY.1;go_wp2_with
    (at_builtin;refine FV _ rfl (.tmp 55) (.tmp 63) _ rfl (base:=W5.heap.size) (l:=D0++[a.id]) J3 IV J4 rfl (Own.alloc XY.1 _) rfl (l2:=[-a.id]) (Sl.lit (n:=1) (AO.made rfl _ _) rfl<|DC I) kY kY D8 ?_;intro v9 w9 LU MF YQ;have TK:=V LU;have Ja:=V<|Below.grown (Below.alloc Js.1 I _) MF D8<|λg hg=>(XY.1.lt g hg).1;have hz9:=Ja.1.size;replace U:=CW.1.keep Ja.1;have HC9:=V<|HR.1.mono<|J B5.1 Ja.1;obtain⟨b_,o_,P8,-,d0,d1,d2,-⟩:=HC9.1.ar hlt;simp only[JU,Addr.mk.injEq,and_true]at P8;obtain⟨rfl,rfl⟩:=P8;rw[oL.1]at d0 d1 d2;clear LU MF YQ BX Bf Bh CS;try clear BX Bf Bh CS
     obtain⟨BX,Bf,Bh,CS,-⟩:=U.BF);go_roundw;case rel=>exact⟨k+1,I,BH,by rw[HD1.1.trans hD];exact TK.1,Ja.1⟩
   exact BJ
def arx(w:World)(l:List<|Int×Int)(e:Ending)(w':World):Prop:=∃A c A' c',e=.returned (.tuple #[.slice A l.length c,.slice A' l.length c'])/\AU w w'/\Own w' w.heap.size 3 1 DF (.slice A l.length c) (l.map (·.1))/\Own w' w.heap.size 3 1 DF (.slice A' l.length c') (l.map (·.2))
def J5(u v:Value):Prop:=∀g,u.ownBlock=some g->v.ownBlock≠some g
theorem arz(v:Value)(p:Pl)(w:World)(h:Cj w v p)(hv:Valid p):Calls prog 200 #[v] w<|arx w<|P7 p p.nodes.length:=by
 have Jk:=V λn W(hW:AU w W)=>aro v p n W (h.mono hW) hv;obtain⟨_,_,_,al,rfl,hpa,⟨An,cn,rfl,hn1,hn2,hR⟩,⟨⟨Aa,ca,rfl,-⟩,-⟩,⟨Af,cf,rfl,-⟩⟩:=h;unfold maxLen at hn2;have HR:=V hR;have HV:=V hv;have hnl:=hv.bg;generalize al.length=na at*;generalize p.faces.length=nf at*;obtain⟨nn,hnn⟩:=BM p.nodes.length;rw[hnn]at hn1 hnl Jk⊢;have HNN:=V hnn;obtain⟨q,hq⟩:=BM<|P7 p nn;rw[hq];have Hq:=V hq;clear hpa hR hv hnn hq;go_enter func200,ntmps200;go_upto_region 1 with fail;obtain⟨C,hW⟩:∃W:World,W=w.alloc (.cells #[.slice An nn cn,.slice Aa na ca,.slice Af nf cf] 26):=⟨_,rfl⟩;have B1:=V (show AU w C by rw[hW];exact bA (bR w) _);have X1:AO C w.heap.size 26 #[.slice An nn cn,.slice Aa na ca,.slice Af nf cf]:=by rw[hW];exact AO.made rfl _ _
 rw[<-hW];clear hW;have DU:=V X1;obtain⟨Au,Aw,Az,BA,-⟩:=X1.BF;go_upto_block 0 with fail;go_wp2_with fail;go_loopw[4,5,6](λs t i wr=>∃k:Nat,k<=nn/\i=.int .i64 k/\(∃A c,s=.slice A (P7 p k).length c)/\(∃A c,t=.slice A (P7 p k).length c)/\Own wr C.heap.size 3 1 DF s ((P7 p k).map (·.1))/\Own wr C.heap.size 3 1 DF t ((P7 p k).map (·.2))/\J5 s t/\AU C wr)λ_ _ i _=>nn-(intOf i).toNat;case atStart=>exact⟨0,C9 _,rfl,⟨none,0,rfl⟩,⟨none,0,rfl⟩,Own.nil _ _ _ _ _,Own.nil _ _ _ _ _,λg z=>by simp[Value.ownBlock]at z,bR C⟩
 obtain⟨k,hk,rfl,⟨A,c,rfl⟩,⟨A',c',rfl⟩,own,T,sep,hb⟩:=hrel;obtain⟨wo,rfl⟩:=BR wr;have hlk:=ahz HV.1 k;rw[<-ahW]at hlk;obtain⟨HO,M,Me,Hb⟩:=D9 own T sep hb;have hzo:=hb.size;have X2:=DU.1.keep hb;clear own T sep hb X1 Au Aw Az BA;by_cases hlt:k<nn
 .have hkn:k<p.nodes.length:=by have:=HNN.1;omega
  obtain⟨b,o,rfl,hlb,c0,c1,c2⟩:=(HR.1.mono<|J B1.1 Hb.1).nd hkn;have aAg:=asN p k hkn;have TP:=HV.1.ad7 p.nodes[k].id;have KZ:=V λd(hd:d∈DL p p.nodes[k].id)=>HV.1.Rq (HV.1.adB (BG hkn) hd).2;have N7:=V<|Jk.1 p.nodes[k].id;generalize p.nodes[k]=nd at*;have dF:=V aAg;clear aAg;obtain⟨L,hL⟩:=BM<|P7 p k;obtain⟨Q,hQ⟩:=BM<|DL p nd.id;rw[hL]at hlk dF HO M Me⊢;rw[hQ]at dF TP N7 KZ;clear hL hQ;obtain⟨BX,Bf,Bh,CS,-⟩:=X2.BF;go_upto_region 5 with fail;refine CZ wo (.run 7 0 0<|.call 7 255<|.take 8 511<|.done) λCG QR Ae Aj hS=>?_;iterate 7 refine Ah ?_
  refine BP ?_;clear hS;intro K hK AQ;go_simp;refine(N7.1 _<|J B1.1<|J Hb.1<|bD<|bR wo).mono ?_;rintro e Bv⟨Aq,cq,rfl,Bj,hoq⟩;have hS:Since wo Bv:=J (w:=wo) AQ.out Bj;clear AQ;refine hK.out _ _ hS λ_=>?_;clear hK K;try simp only[pu]
  refine Ah ?_;refine CX ?_;clear hS Aj Ae;intro hB;obtain⟨W5,IW⟩:∃W:World,W=Bv:=⟨_,rfl⟩;rw[<-IW]at hB hoq⊢;have Cb:=V hB;have HQ5:=V<|Own.EN hoq (b':=wo.heap.size) Ak;have uT:=V (show J5 (.slice A L.length c)<|.slice Aq Q.length cq fromλg z e=>by have h1:=(HO.1.lt g z).2;have h2:=(HQ5.1.lt g e).1;omega);have arT:=V (show J5 (.slice A' L.length c')<|.slice Aq Q.length cq fromλg z e=>by have h1:=(M.1.lt g z).2;have h2:=(HQ5.1.lt g e).1;omega);have QU:=Cb.1.size;clear hB hoq Bj IW c0 c1 c2 hlb X2 BX Bf Bh CS N7;go_upto_block 2 with fail;go_wp2_with fail;go_loopw[4,5,8](λs t i wr=>∃j:Nat,j<=Q.length/\i=.int .i64 j/\(∃A c,s=.slice A (L.length+j) c)/\(∃A c,t=.slice A (L.length+j) c)/\Own wr C.heap.size 3 1 DF s ((L++(P6 Q).take j).map (·.1))/\Own wr C.heap.size 3 1 DF t ((L++(P6 Q).take j).map (·.2))/\J5 s t/\J5 s (.slice Aq Q.length cq)/\J5 t (.slice Aq Q.length cq)/\Own wr wo.heap.size 3 1 DF (.slice Aq Q.length cq) Q/\AU C wr/\W5.heap.size<=wr.heap.size)λ_ _ i _=>Q.length-(intOf i).toNat;case atStart=>exact⟨0,C9 _,rfl,⟨A,c,rfl⟩,⟨A',c',rfl⟩,by rw[PZ,I9];exact HO.1.keep Cb.1,by rw[PZ,I9];exact M.1.keep Cb.1,Me.1,uT.1,arT.1,HQ5.1,J Hb.1 Cb.1,Dh _⟩
  obtain⟨j,hj,rfl,⟨A3,c3,rfl⟩,⟨A4,c4,rfl⟩,aAh,U,s34,s3q,s4q,oq,hb3,hz3⟩:=hrel;obtain⟨Eo,Jt,H34,H3q,H4q,HQ,HB3⟩:=V9 aAh U s34 s3q s4q oq hb3;clear aAh U s34 s3q s4q oq hb3;by_cases hlj:j<Q.length
  .have hm:(j+1)%Q.length<Q.length:=V7 _ I;have htk:=asO Q j hlj hm;have f1:=(HQ.1.row_in).int hlj;have f2:=(HQ.1.row_in).int hm;obtain⟨bq,oM,rfl,oO,e1⟩:=f1;obtain⟨b_,o_,P8,-,e2⟩:=f2;simp only[JU,Addr.mk.injEq,and_true]at P8;obtain⟨rfl,rfl⟩:=P8;have htm:Int.tmod ((j:Int)+1) (Q.length:Int)=((j+1)%Q.length:Nat):=by rw[aCO I,show(j:Int)+1=((j+1:Nat):Int)by omega];exact(Int.natCast_emod _ _).symm
   have hbd:-1073741824<=Q[(j+1)%Q.length]/\Q[(j+1)%Q.length]<=1073741824:=KZ.1 _<|BG hm;have FI:=V htk;obtain⟨f,hf⟩:=BM Q[j];rw[hf]at FI;have HF:=V hf;clear htk hf e1;generalize Q[(j+1)%Q.length]=d at*;generalize(j+1)%Q.length=m at*;have HLn:=V (show(L++(P6 Q).take (j+1)).length=L.length+(j+1)by rw[EK,JF,uS];omega);have HLj:=V (show(L++(P6 Q).take j).length=L.length+j by rw[EK,JF,uS];omega);have k1:=DR<|-d;have g1:=DR<|(j:Int)+1;have g3:¬(Q.length:Int)=0:=I;have g11:¬Q=[]:=λe=>by have:=congrArg List.length e;simp only[Nb]at this;omega
   have g4:IntKind.i64.wrap (m:Int)=m:=Gz _ I;have g5:(m:Int)<Q.length:=I;have g6:0<=(m:Int):=I;go_upto_region 10 with
    (at_builtin;refine FV _ rfl (.tmp 30) (.tmp 40) _ rfl (base:=C.heap.size) J3 IV J4 rfl (Own.alloc Eo.1 _) rfl (l2:=[-d]) (Sl.lit (n:=1) (AO.made rfl _ _) rfl<|DC I) aDX aDX (by have:=HB3.1.size;simp;omega) ?_;intro v5 w5 Dq hg5 IE;rw[show(L++(P6 Q).take j).map (·.1)++[-d]=(L++(P6 Q).take (j+1)).map (·.1)by rw[FI.1];simp only[Gt,FB,Ri,Jv]]at Dq;obtain⟨A5,c5,hv5,-⟩:=Own.Il Dq;rw[D6,HLn.1]at hv5;subst hv5;obtain⟨Gf,adE,aj9⟩:=CB Dq (Own.grown (Own.alloc HQ.1 _) hg5<|λg z e=>H3q.1 g e.symm z)<|Own.grown (Own.alloc Jt.1 _) hg5<|λg z e=>H34.1 g e.symm z;have adF:∀g,(Value.slice A5 (L.length+(j+1)) c5).ownBlock=some g->(Value.slice A3 (L.length+j) c3).ownBlock=some g\/g=wr.heap.size+1:=λg z=>by
      rcases IE with h|h;.exact .inl<|h.symm.trans z
      rw[z]at h;have:=Dn h;simp at this;exact .inr this
     have H54:=V (show J5 (.slice A5 (L.length+(j+1)) c5)<|.slice A4 (L.length+j) c4 fromλg z e=>by
      rcases adF g z with h|h;.exact H34.1 g h e
      have:=(Jt.1.lt g e).2;omega);have H5q:=V (show J5 (.slice A5 (L.length+(j+1)) c5)<|.slice (some ⟨bq,oM,none⟩) Q.length cq fromλg z e=>by
      rcases adF g z with h|h;.exact H3q.1 g h e
      have:=(HQ.1.lt g e).2;omega);have ajA:=V<|bG (bA HB3.1 _) hg5<|λg z=>(Eo.1.lt g z).1;have az0:wr.heap.size<w5.heap.size:=by have:=hg5.size;simp at this;omega
     clear Dq hg5 IE adF);clear e2 htm g1 g3 g4 g5 g6 g11 k1 hbd;obtain⟨b_,o_,P8,oK,e1⟩:=(adE.1.row_in).int hlj;simp only[JU,Addr.mk.injEq,and_true]at P8;obtain⟨rfl,rfl⟩:=P8;rw[HF.1]at e1;go_upto_region 8 with
    (at_builtin;refine FV _ rfl (.tmp 42) (.tmp 47) _ rfl (base:=C.heap.size) J3 IV J4 rfl (Own.alloc aj9.1 _) rfl (l2:=[f]) (Sl.lit (n:=1) (AO.made rfl _ _) rfl<|DC I) aDX aDX (by have:=ajA.1.size;simp;omega) ?_;intro v6 w6 XU LQ aAi;rw[show(L++(P6 Q).take j).map (·.2)++[f]=(L++(P6 Q).take (j+1)).map (·.2)by rw[FI.1];simp only[Gt,FB,Ri,Jv]]at XU;obtain⟨A6,c6,hv6,-⟩:=Own.Il XU;rw[D6,HLn.1]at hv6;subst hv6;obtain⟨MP,HQ6,arU⟩:=CB XU (Own.grown (Own.alloc adE.1 _) LQ<|λg z e=>H4q.1 g e.symm z)<|Own.grown (Own.alloc Gf.1 _) LQ<|λg z e=>H54.1 g z e.symm;have oP:∀g,(Value.slice A6 (L.length+(j+1)) c6).ownBlock=some g->(Value.slice A4 (L.length+j) c4).ownBlock=some g\/g=w5.heap.size+1:=λg z=>by
      rcases aAi with h|h;.exact .inl<|h.symm.trans z
      rw[z]at h;have:=Dn h;simp at this;exact .inr this
     have H56:=V (show J5 (.slice A5 (L.length+(j+1)) c5)<|.slice A6 (L.length+(j+1)) c6 fromλg z e=>by
      rcases oP g e with h|h;.exact H54.1 g z h
      have:=(Gf.1.lt g z).2;omega);have H6q:=V (show J5 (.slice A6 (L.length+(j+1)) c6)<|.slice (some ⟨bq,oM,none⟩) Q.length cq fromλg z e=>by
      rcases oP g z with h|h;.exact H4q.1 g h e
      have:=(adE.1.lt g e).2;omega);have EG:=V<|bG (bA ajA.1 _) LQ<|λg z=>(aj9.1.lt g z).1;have oz:w5.heap.size<w6.heap.size:=by have:=LQ.size;simp at this;omega
     clear XU LQ aAi oP);clear e1 oK;go_wp2;go_roundw;case rel=>exact⟨j+1,I,BH,⟨A5,c5,rfl⟩,⟨A6,c6,rfl⟩,arU.1,MP.1,H56.1,H5q.1,H6q.1,HQ6.1,EG.1,I⟩
   exact BJ
  obtain rfl:j=Q.length:=I;have ho3:=Eo.1;have KY:=Jt.1;rw[arV]at ho3 KY;obtain⟨cZ,atE,atF⟩:=CB (show(P7 p<|k+1).length=L.length+Q.length by rw[dF.1,EK,uS]) ho3 KY;clear ho3 KY;go_wp2;go_roundw;case rel=>exact⟨k+1,I,BH,⟨A3,c3,by rw[cZ.1]⟩,⟨A4,c4,by rw[cZ.1]⟩,by rw[dF.1];exact atE.1,by rw[dF.1];exact atF.1,H34.1,HB3.1⟩
  exact BJ
 obtain rfl:k=nn:=I;rw[Hq.1]at HO M⊢;try clear BX Bf Bh CS
 obtain⟨BX,Bf,Bh,CS,-⟩:=X2.BF;go_wp2_with fail;go_ret2;exact⟨A,c,A',c',rfl,J B1.1 Hb.1,HO.1.EN B1.1.size,M.1.EN B1.1.size⟩
structure AD where
 tw:Int
 out:List Int
 ov:SV
 inn:List (List Int×SV)iv:SV
 Ci:List Int
 av:SV
def EH(x:AD):List Value:=[.int .i64 x.tw,BO x.ov,BO x.iv,BO x.av]
theorem SQ(x:AD):(EH x).length=4:=rfl
theorem aAj(x:AD):∀u∈EH x,u.oneCell'=true:=by simp[EH,BO,Value.oneCell']
theorem atG:Elem prog 88 99 4 80:=Elem.QI (z:=.agg #[.int .i64 0,.slice none 0 0,.slice none 0 0,.slice none 0 0]) IK IK rfl I
structure Gm(e:TypeId)(w0 w:World)(B:Nat)(v:Value)(L:List AD):Prop where
 own:Own w B e 4 EH v L
 out:∀x∈L,Ints w0 (BO x.ov) x.out
 inn:∀x∈L,Own w B 24 1 JL (BO x.iv) x.inn
 Ik:∀x∈L,∀c∈x.inn,Ints w0 (BO c.2) c.1
 Ci:∀x∈L,Own w B 3 1 DF (BO x.av) x.Ci
 kH:L.Pairwise λx y=>J5 (BO x.iv) (BO y.iv)kJ:L.Pairwise λx y=>J5 (BO x.av)<|BO y.av
theorem Gm.keep{e:TypeId}{w0 w w':World}{B:Nat}{v:Value}{L:List AD}(h:Gm e w0 w B v L)(hb:AU w w'):Gm e w0 w' B v L:=⟨h.own.keep hb,h.out,λx c=>(h.inn x c).keep hb,h.Ik,λx c=>(h.Ci x c).keep hb,h.kH,h.kJ⟩
theorem adG(p:Pl){X:List Int}{k:Nat}(hk:k<X.length):DV p (X.take<|k+1)=DV p (X.take k)++EO (GL p X[k]):=by unfold DV;rw[Eu hk,LY];simp
theorem aER{P:List Pt}{m:Nat}(hm:m+1<P.length):(EO P).take (m+1)=(EO P).take m++[(P.getD m AY,P.getD (m+1) AY)]:=by
 have h:m<(EO P).length:=by unfold EO;rw[D6,Oo];omega
 rw[Eu h];simp[EO]
theorem atH{σ:Type}(w:World)(gm:Nat)(p:Pl)(f:Int->SV)(hpm:Qk w gm p f)(hv:Valid p)(vc:Value)(X:List Int)(hX:Ints w vc X)(hd:∀d∈X,d∈BZ p)(g1 g2 g3:Nat)(Inv:σ->World->Prop)(upd:σ->Pt×Pt->σ)(hI:∀s W,Inv s W->AU w W)(hD:∀s W,Inv s W->Inv s W.drew)(C:∀s W q,q∈DV p X->Inv s W->Calls prog 207 #[BD q.1,BD q.2,.pointer<|some ⟨g1,0,none⟩,.pointer<|some ⟨g2,0,none⟩,.pointer<|some ⟨g3,0,none⟩] W λe W'=>e=.returned (.tuple #[])/\Inv (upd s q) W'/\Below w.heap.size W W')(s:σ)(W:World)(h0:Inv s W):Calls prog 95 #[.map<|some gm,vc,.func (.func 207) #[] #[.pointer<|some ⟨g1,0,none⟩,.pointer<|some ⟨g2,0,none⟩,.pointer<|some ⟨g3,0,none⟩]] W λe W'=>e=.returned (.tuple #[])/\Inv ((DV p X).foldl upd s) W'/\Below w.heap.size W W':=by
 obtain⟨Ac,cc,rfl,hc1,hc2,J6⟩:=hX;unfold maxLen at hc2;obtain⟨Oc,Jl,HI,Ce,TQ,Yn,HV,H0,FI⟩:=yH J6 hpm hI C hD hd hv h0 λk(hk:k<X.length)=>adG p hk;obtain⟨R,hR⟩:=BM<|(DV p X).foldl upd s;rw[hR];have Oe:=V hR;have Rw:=V λk(hk:k<X.length)q(hq:q∈EO (GL p X[k]))=>show q∈DV p X from Fj.2 ⟨_,BG hk,hq⟩;clear J6 hpm hI C hD hd hv h0 hR;go_enter func95,ntmps95;go_wp2_with fail;go_loopw[12](λi wr=>∃k:Nat,k<=X.length/\i=.int .i64 k/\Inv ((DV p<|X.take k).foldl upd s) wr/\Below w.heap.size W wr)λi _=>X.length-(intOf i).toNat;case atStart=>exact⟨0,C9 _,rfl,H0.1,Below.refl _ _⟩
 obtain⟨k,hk,rfl,c,hbw⟩:=hrel;obtain⟨wo,rfl⟩:=BR wr;obtain⟨Jy,Ez,Hb⟩:=CB c hbw<|HI.1 _ _ c;clear c hbw;by_cases hlt:k<X.length
 .obtain⟨b,o,rfl,hlb,c0⟩:=(Oc.1.mono Hb.1).int hlt;have hdd:=Yn.1 _<|BG hlt;have M:=FI.1 k hlt;have T:=Rw.1 k hlt;generalize X[k]=d at*;obtain⟨a,ha,hor,hpt⟩:=HV.1.Ug hdd;have hid:=HV.1.IB ha;rw[hpt]at M T;obtain⟨n,U⟩:=(Jl.1.keep Hb.1).mp;have hlk:=U.look a.id<|L8 I I;have NT:=Jl.1.rd a ha;have hlen:2<=(AV p a).length:=by have:=En p a;omega
  have aBC:=V M;have SS:=V T;have k1:=DR<|-d;have km:max d (-d)=a.id:=I;have Pv:=HV.1.Td ha;have hpl:(AV p a).length<=66:=by have:=En p a;omega
  generalize f a.id=x at*;obtain⟨Ap,np,cp⟩:=x;unfold BO at hlk NT;obtain⟨kK,cp',he,hp1,hp2,Og⟩:=NT;injection he with e1 e2 e3;subst e1 e2 e3;unfold maxLen at hp2;have Yo:=V Og;clear U hdd M T hpt hor ha Og Pv;generalize a.id=ai at*;generalize AV p a=P at*;clear hid;obtain⟨s1,hs1⟩:=BM<|(DV p<|X.take k).foldl upd s;rw[hs1]at Jy;have TR:=V hs1;clear hs1;go_upto_block 2 with fail;go_wp2_with fail;go_loopw[9](λi wr=>∃j:Nat,1<=j/\j<=P.length/\i=.int .i64 j/\Inv (((EO P).take<|j-1).foldl upd s1) wr/\Below w.heap.size wo wr)λi _=>P.length-(intOf i).toNat;case atStart=>exact⟨1,Dh _,I,rfl,Jy.1,Below.refl _ _⟩
  obtain⟨j,hj1,hj2,rfl,c,F6⟩:=hrel;obtain⟨kL,FH,Hb2⟩:=CB c F6<|HI.1 _ _ c;clear c F6;by_cases hlj:j<P.length
  .obtain⟨m,rfl⟩:∃m,j=m+1:=⟨j-1,I⟩;have U:m<P.length:=I;have hq:=SS.1 (P.getD m AY,P.getD (m+1) AY)<|EP.2 ⟨m,FC.2 I,rfl⟩;have M:=aER hlj;have C:=Ce.1 _ wr.drew _ hq<|TQ.1 _ _ kL.1;rw[show m+1-1=m by omega]at C;have ea:P.getD m AY=P[m]:=by simp only[G5,DK U,I7]
   have eb:P.getD (m+1) AY=P[m+1]:=by simp only[G5,DK hlj,I7]
   rw[ea,eb]at C M;obtain⟨bp,op,KJ,hlp,e10,e11⟩:=Yo.1.pt U;obtain⟨bp',op',JM,-,e20,e21⟩:=Yo.1.pt hlj;rw[KJ]at JM;injection JM with JM;injection JM with x1 x2 _;subst x1 x2;replace e10:=Dk Hb2.1 e10;replace e11:=Dk Hb2.1 e11;replace e20:=Dk Hb2.1 e20;replace e21:=Dk Hb2.1 e21;have U6:=V M;generalize P[m]=pa at*;generalize P[m+1]=pb at*;unfold BD at C;simp only at C;have HC:=V C;clear C M ea eb hq;subst KJ;have k2:IntKind.i64.wrap ((m:Int)+1-1)=m:=by rw[show(m:Int)+1-1=m by omega];exact Gz _ I
   have k3:(m:Int)<P.length:=I;have k8:IntKind.i64.wrap (m:Int)=m:=Gz _ I;have k4:0<=(m:Int):=I;have k5:(m:Int)+1-1=m:=I;have k6:(m:Int)+1<P.length:=I;have k7:0<=(m:Int)+1:=I;rw[show((m+1:Nat):Int)=(m:Int)+1 from by omega];go_upto_region 7 with fail;refine Pe w.heap.size wr (.run 10 0 0<|.call 10 2047<|.done) λCG QR Ae Aj hS=>?_;iterate 10 refine Ah ?_
   refine BP ?_;clear hS;intro K hK AQ;go_simp;refine HC.1.mono ?_;rintro e w4⟨rfl,kM,hb4⟩;have hS:Fh w.heap.size wr w4:=Below.trans AQ.out hb4;have aFv:=V kM;clear hb4 kM;clear AQ;refine hK.out _ _ hS λ_=>?_;clear hK K;try simp only[pu]
   refine L9 ?_;clear hS Aj Ae;intro hB;have aBD:=V<|Below.trans FH.1 hB;clear hB e10 e11 e20 e21 hlp;go_wp2;go_roundw;case rel=>exact⟨m+1+1,I,I,BH,aFw,aBD.1⟩
   exact BJ
  obtain rfl:j=P.length:=I;have aBE:(EO P).length=P.length-1:=by unfold EO;rw[D6,Oo]
  have z:=kL.1;rw[Ip I,<-TR.1,<-LG,<-aBC.1]at z;have HF:=V z;clear z aBE;go_wp2;go_roundw;case rel=>exact⟨k+1,I,BH,HF.1,Below.trans Ez.1 FH.1⟩
  exact BJ
 obtain rfl:k=X.length:=I;have z:=Jy.1;rw[Gu,Oe.1]at z;have HF:=V z;clear z;go_wp2_with fail;exact bodyPost_end (v:=.tuple #[]) (results_none rfl _ _ _) rfl ⟨rfl,HF.1,Ez.1⟩
structure Ul(w0 W:World)(g1 g2 g3:Nat)(v:Pt)(s:Bool×Bool):Prop where
 b:AU w0 W
 at_:AO W g1 50 #[.int .i64 v.x,.int .i64 v.y]uU:AO W g2 4 #[.bool s.1]odd:AO W g3 4 #[.bool s.2]l2:w0.heap.size<=g2
 l3:w0.heap.size<=g3
 n12:g1≠g2
 n13:g1≠g3
 n23:g2≠g3
theorem Ul.keep{w0 W c:World}{j g2 g3:Nat}{v:Pt}{s:Bool×Bool}(h:Ul w0 W j g2 g3 v s)(hb:AU W c):Ul w0 c j g2 g3 v s:=⟨J h.b hb,h.at_.keep hb,h.uU.keep hb,h.odd.keep hb,h.l2,h.l3,h.n12,h.n13,h.n23⟩
theorem Ul.atI{w0 W:World}{c g2 g3:Nat}{v:Pt}{s:Bool×Bool}(h:Ul w0 W c g2 g3 v s)(x:Bool):Ul w0 (W.setCell ⟨g2,0,none⟩<|.bool x) c g2 g3 v (x,s.2):=⟨bS h.b h.l2 _,h.at_.far h.n12 _,by have:=h.uU.EM 0<|.bool x;simpa using this,h.odd.far (λe=>h.n23 e.symm) _,h.l2,h.l3,h.n12,h.n13,h.n23⟩
theorem Ul.ajB{w0 W:World}{c g2 g3:Nat}{v:Pt}{s:Bool×Bool}(h:Ul w0 W c g2 g3 v s)(x:Bool):Ul w0 (W.setCell ⟨g3,0,none⟩<|.bool x) c g2 g3 v (s.1,x):=⟨bS h.b h.l3 _,h.at_.far h.n13 _,h.uU.far h.n23 _,by have:=h.odd.EM 0<|.bool x;simpa using this,h.l2,h.l3,h.n12,h.n13,h.n23⟩
theorem atJ{a b c:Pt}(h:ES [a,b,c]=true):(0<GH a b c↔0<tw a b c)/\(GH a b c<0↔tw a b c<0):=by
 unfold GH dK;rw[AZ h];split;.omega
 split<;>omega
theorem atK(w0 W:World)(g1 g2 g3:Nat)(v a b:Pt)(s:Bool×Bool)(h:Ul w0 W g1 g2 g3 v s)(na:Bl a=true)(nb:Bl b=true)(nv:Bl v=true):Calls prog 207 #[BD a,BD b,.pointer<|some ⟨g1,0,none⟩,.pointer<|some ⟨g2,0,none⟩,.pointer<|some ⟨g3,0,none⟩] W λe W'=>e=.returned (.tuple #[])/\Ul w0 W' g1 g2 g3 v (Rt v s (a,b))/\Below w0.heap.size W W':=by
 have TO:=λW=>zB a b v W;have TS:=λW=>af0 a b v W;obtain⟨p1,p2⟩:=atJ (a:=a) (b:=b) (c:=v) (by simp[ES,na,nb,nv]);have hz0:=h.b.size;unfold BD at TO TS⊢;obtain⟨HO,HS,HI⟩:=CB TO TS h;clear TO TS na nb nv;obtain⟨R,j⟩:=BM<|Rt v s (a,b);rw[j];unfold Rt Jj at j;simp only at j;have hl1:=h.at_.lt;have hl2:=h.uU.lt;have hl3:=h.odd.lt;go_enter func207,ntmps207;go_upto_block 0 with fail;obtain⟨W1,hW⟩:=BR<|(W.alloc<|.cells #[.int .i64 a.x,.int .i64 a.y] 50).alloc<|.cells #[.int .i64 b.x,.int .i64 b.y] 50;have HB1:=V (show AU W W1 by rw[hW];exact bA (bA (bR W) _) _);have X5:AO W1 W.heap.size 50 #[.int .i64 a.x,.int .i64 a.y]:=by rw[hW];exact(AO.made rfl _ _).alloc _
 have X6:AO W1 (W.heap.size+1) 50 #[.int .i64 b.x,.int .i64 b.y]:=by rw[hW];exact AO.made Ak _ _
 rw[<-hW];clear hW h;obtain⟨HI1,D5,Ic⟩:=CB (HI.1.keep HB1.1) X5 X6;have X1:=HI1.1.at_;have Oe:=V j;clear j;obtain⟨Au,Aw,Az,-⟩:=X1.BL;obtain⟨CJ,CO,CQ,-⟩:=X5.BL;obtain⟨EW,EX,EY,-⟩:=X6.BL;go_wp2_with fail;refine(HO.1 _).mono ?_;rintro e w2⟨rfl,hb2⟩;obtain⟨K,T,adH,atL⟩:=D9 (HI1.1.keep hb2) (Below.trans (HB1.1.mono hz0)<|hb2.mono<|by have:=HB1.1.size;omega) (D5.1.keep hb2)<|Ic.1.keep hb2;have hz2:=hb2.size;clear hb2 X1 Au Aw Az X5 CJ CO CQ X6 EW EX EY D5 Ic HI1 HB1 HO;have j:=Oe.1;clear Oe;obtain⟨o,ho⟩:=BM<|Eh a b v;rw[ho]at j⊢;clear ho;cases o;case true=>rw[AZ rfl]at j;have HF:=V<|K.1.atI true;rw[j]at HF;have X2:=K.1.uU;have oQ:=V<|T.1.setCell (p:=⟨g2,0,none⟩) K.1.l2<|.bool true;clear j;obtain⟨BX,Bf,UL⟩:=X2.G7;go_wp2_with fail;exact bodyPost_end (v:=.tuple #[]) (results_none rfl _ _ _) rfl ⟨rfl,HF.1,oQ.1⟩
 rw[AX BI]at j;obtain⟨sd,hsd⟩:=BM<|GH a b v;rw[hsd]at HS p1 p2;clear hsd;have X1:=K.1.at_;have X5:=adH.1;have X6:=atL.1;try clear Au Aw Az
 obtain⟨Au,Aw,Az,-⟩:=X1.BL;try clear CJ CO CQ
 obtain⟨CJ,CO,CQ,-⟩:=X5.BL;try clear EW EX EY
 obtain⟨EW,EX,EY,-⟩:=X6.BL;by_cases c:a.y<=v.y/\v.y<b.y\/b.y<=v.y/\v.y<a.y;case neg=>
  have M:s=R:=by rw[GX I]at j;simpa using j
  have HF:=V M;clear j M p1 p2;by_cases c1:a.y<=v.y
  .have c2:¬v.y<b.y:=I;by_cases d1:b.y<=v.y;.have d2:¬v.y<a.y:=I;clear c;go_wp2_with fail;exact bodyPost_end (v:=.tuple #[]) (results_none rfl _ _ _) rfl ⟨rfl,by rw[<-HF.1];exact K.1,T.1⟩
   omega
  have d2:v.y<a.y:=I;have d1:¬b.y<=v.y:=I;clear c;go_wp2_with fail;exact bodyPost_end (v:=.tuple #[]) (results_none rfl _ _ _) rfl ⟨rfl,by rw[<-HF.1];exact K.1,T.1⟩
 obtain⟨atM,atN,atO⟩:=CB X1 X5 X6;rcases c with⟨c1,c2⟩|⟨d1,d2⟩
 .have d1:¬b.y<=v.y:=I;go_wp2_with fail;refine(HS.1 _).mono ?_;rintro e w3⟨rfl,z⟩;have C:=V<|K.1.keep z;have hz3:=z.size;have U:=V<|Below.trans T.1<|z.mono I;have X1:=atM.1.keep z;have X5:=atN.1.keep z;have X6:=atO.1.keep z;clear z;try clear Au Aw Az
  obtain⟨Au,Aw,Az,-⟩:=X1.BL;try clear CJ CO CQ
  obtain⟨CJ,CO,CQ,-⟩:=X5.BL;try clear EW EX EY
  obtain⟨EW,EX,EY,-⟩:=X6.BL;by_cases g:0<sd
  .have M:(s.1,!s.2)=R:=by rw[Ia I]at j;simpa using j
   have HF:=V<|C.1.ajB<|!s.2;rw[M]at HF;have oQ:=V<|U.1.setCell (p:=⟨g3,0,none⟩) C.1.l3<|.bool<|!s.2;have X3:=C.1.odd;obtain⟨s1,s2⟩:=s;simp only at X3 HF oQ;clear j M p1 p2;obtain⟨E5,Em,iE⟩:=X3.G7;cases s2;all_goals go_wp2_with fail;exact bodyPost_end (v:=.tuple #[]) (results_none rfl _ _ _) rfl ⟨rfl,HF.1,oQ.1⟩
  have M:s=R:=by rw[GX I]at j;simpa using j
  have HF:=V M;clear j M p1 p2;go_wp2_with fail;exact bodyPost_end (v:=.tuple #[]) (results_none rfl _ _ _) rfl ⟨rfl,by rw[<-HF.1];exact C.1,U.1⟩
 have c0:¬a.y<=v.y:=I;go_wp2_with fail;refine(HS.1 _).mono ?_;rintro e w3⟨rfl,z⟩;have C:=V<|K.1.keep z;have hz3:=z.size;have U:=V<|Below.trans T.1<|z.mono I;clear z;by_cases g:sd<0
 .have M:(s.1,!s.2)=R:=by rw[Ia I]at j;simpa using j
  have HF:=V<|C.1.ajB<|!s.2;rw[M]at HF;have oQ:=V<|U.1.setCell (p:=⟨g3,0,none⟩) C.1.l3<|.bool<|!s.2;have X3:=C.1.odd;obtain⟨s1,s2⟩:=s;simp only at X3 HF oQ;clear j M p1 p2;try clear E5 Em
  try clear iE
  obtain⟨E5,Em,iE⟩:=X3.G7;cases s2;all_goals go_wp2_with fail;exact bodyPost_end (v:=.tuple #[]) (results_none rfl _ _ _) rfl ⟨rfl,HF.1,oQ.1⟩
 have M:s=R:=by rw[GX I]at j;simpa using j
 have HF:=V M;clear j M p1 p2;go_wp2_with fail;exact bodyPost_end (v:=.tuple #[]) (results_none rfl _ _ _) rfl ⟨rfl,by rw[<-HF.1];exact C.1,U.1⟩
theorem atP(w:World)(C:Nat)(p:Pl)(f:Int->SV)(z:Qk w C p f)(hv:Valid p)(K:Value)(X:List Int)(hX:Ints w K X)(hd:∀d∈X,d∈BZ p)(v:Pt)(nv:Bl v=true):Calls prog 148 #[.map<|some C,K,BD v] w λe w'=>e=.returned (.bool<|encS p X v)/\AU w w':=by
 have NJ:=V λs W(h0:Ul w W w.heap.size (w.heap.size+1) (w.heap.size+1+1) v s)=>atH w C p f z hv K X hX hd w.heap.size (w.heap.size+1) (w.heap.size+1+1) (λs W=>Ul w W w.heap.size (w.heap.size+1) (w.heap.size+1+1) v s) (Rt v) (λs W h=>h.b) (λs W h=>h.keep<|bD<|bR W)
  (λs W q hq h=>by obtain⟨a,ha,-,k,hk,rfl⟩:=hv.aAn hd hq;exact atK w W _ _ _ v _ _ s h (hv.DW ha I) (hv.DW ha hk) nv) s W h0;unfold BD;obtain⟨R,M⟩:=BM<|encS p X v;rw[M];have Oe:=V M;clear M z hv hX hd nv;go_enter func148,ntmps148;go_upto_region 2 with fail;obtain⟨W1,T⟩:=BR<|((w.alloc<|.cells #[.int .i64 v.x,.int .i64 v.y] 50).alloc<|.cells #[.bool false] 4).alloc<|.cells #[.bool false] 4;have HE:=V (show Ul w W1 w.heap.size (w.heap.size+1) (w.heap.size+1+1) v (false,false)from by rw[T];exact⟨bA (bA (bA (bR w) _) _) _,((AO.made rfl _ _).alloc _).alloc _,(AO.made Ak _ _).alloc _,AO.made Ak _ _,I,I,I,I,I⟩);rw[<-T];clear T;go_wp2_with fail;refine(NJ.1 _ _ HE.1).mono ?_;rintro e w2⟨rfl,c,-⟩;have j:=V c;have U:=c.uU;have X8:=c.odd;clear c HE NJ;have o:=Oe.1;unfold encS Uy at o;obtain⟨S,hS⟩:=BM<|(DV p X).foldl (Rt v) (false,false);rw[hS]at U X8 o j;clear hS Oe;obtain⟨on,od⟩:=S;simp only at U X8 o;obtain⟨Ec,Ee,-⟩:=U.G7;obtain⟨Ox,Oy,-⟩:=X8.G7;cases od;case false=>
  obtain rfl:false=R:=by simpa using o
  clear o;go_wp2;go_ret;exact⟨rfl,j.1.b⟩
 obtain rfl:(!on)=R:=by simpa using o
 clear o;go_wp2;go_ret;exact⟨rfl,j.1.b⟩
