import Derived.Test.YtngoejdlompfoaaGreatGE
set_option linter.unusedSimpArgs false
set_option linter.unusedVariables false
set_option maxRecDepth 100000
set_option maxHeartbeats 8000000
namespace Go.Proofs.YtngoejdlompfoaaGreat
open Go.RowKit Tryz
structure Sg where
 arc:Ar
 i:Nat
 n:Nat
 a:Pt
 b:Pt
structure SV where
 a:Option Addr
 n:Nat
 c:Nat
def dV(s:Sg×SV):List Value:=[.int .i64 s.1.arc.id,.int .i64 s.1.arc.fr,.int .i64 s.1.arc.dst,.slice s.2.a s.2.n s.2.c,.int .i64 s.1.arc.left,.int .i64 s.1.arc.right,.int .i64 s.1.i,.int .i64 s.1.n,.int .i64 s.1.a.x,.int .i64 s.1.a.y,.int .i64 s.1.b.x,.int .i64 s.1.b.y]
def UG(s:Sg)(v:Value):Value:=.agg #[.int .i64 s.arc.id,.int .i64 s.arc.fr,.int .i64 s.arc.dst,v,.int .i64 s.arc.left,.int .i64 s.arc.right,.int .i64 s.i,.int .i64 s.n,.int .i64 s.a.x,.int .i64 s.a.y,.int .i64 s.b.x,.int .i64 s.b.y]
theorem AO.UY{w:World}{g:Nat}{t:TypeId}{o s z C K M T U v8 v9 c j:Value}(h:AO w g t #[o,s,z,C,K,M,T,U,v8,v9,c,j]):g<w.heap.size/\w.cell? ⟨g,0,none⟩=some o/\w.cell? ⟨g,1,none⟩=some s/\w.cell? ⟨g,2,none⟩=some z/\w.cell? ⟨g,3,none⟩=some C/\w.cell? ⟨g,4,none⟩=some K/\w.cell? ⟨g,5,none⟩=some M/\w.cell? ⟨g,6,none⟩=some T/\w.cell? ⟨g,7,none⟩=some U/\w.cell? ⟨g,8,none⟩=some v8/\w.cell? ⟨g,9,none⟩=some v9/\w.cell? ⟨g,10,none⟩=some c/\w.cell? ⟨g,11,none⟩=some j/\w.frozen? ⟨g,0,none⟩=false/\w.frozen? ⟨g,1,none⟩=false/\w.frozen? ⟨g,2,none⟩=false/\w.frozen? ⟨g,3,none⟩=false/\w.frozen? ⟨g,4,none⟩=false/\w.frozen? ⟨g,5,none⟩=false/\w.frozen? ⟨g,6,none⟩=false/\w.frozen? ⟨g,7,none⟩=false/\w.frozen? ⟨g,8,none⟩=false/\w.frozen? ⟨g,9,none⟩=false/\w.frozen? ⟨g,10,none⟩=false/\w.frozen? ⟨g,11,none⟩=false:=⟨h.lt,h.cell 0,h.cell 1,h.cell 2,h.cell 3,h.cell 4,h.cell 5,h.cell 6,h.cell 7,h.cell 8,h.cell 9,h.cell 10,h.cell 11,h.frozen 0,h.frozen 1,h.frozen 2,h.frozen 3,h.frozen 4,h.frozen 5,h.frozen 6,h.frozen 7,h.frozen 8,h.frozen 9,h.frozen 10,h.frozen 11⟩
def Vj(a:Ar)(id:Int):Bool:=a.fr==id||a.dst==id
theorem aom(a:Ar)(A:Option Addr)(n c:Nat)(id:Int)(w:World):Calls prog 249 #[.agg #[.int .i64 a.id,.int .i64 a.fr,.int .i64 a.dst,.slice A n c,.int .i64 a.left,.int .i64 a.right],.int .i64 id] w λe w'=>e=.returned (.bool<|Vj a id)/\AU w w':=by
 unfold Vj;cases h1:a.fr==id;.cases h2:a.dst==id;all_goals go_enter func249,ntmps249;go_wp2;go_ret;exact⟨rfl,bA (bR w) _⟩
 go_enter func249,ntmps249;go_wp2;go_ret;exact⟨rfl,bA (bR w) _⟩
def UZ(s t:Sg):Bool:=if t.i=s.i+1\/s.i=0/\t.i+1=t.n/\s.arc.fr=s.arc.dst then GU s.a s.b t.a t.b==1 else GU s.a s.b t.a t.b==0
theorem apart_spec(s t:Sg)(A T:Option Addr)(n U c c':Nat)(w:World)(hs:s.i<=2097152)(ht:t.n<=2097152)(ht':1<=t.n):Calls prog 198 #[UG s<|.slice A n c,UG t<|.slice T U c'] w λe w'=>e=.returned (.bool<|UZ s t)/\AU w w':=by
 have M:∀W,Calls prog 248 #[BD s.a,BD s.b,BD t.a,BD t.b] W _:=λW=>afF s.a s.b t.a t.b W;unfold BD at M;have HM:=V M;clear M;unfold UG;obtain⟨q,K⟩:=BM<|UZ s t;rw[K];unfold UZ at K;have z:=V K;clear K;go_enter func198,ntmps198;go_wp2_with fail;refine(HM.1 _).mono ?_;rintro e w1⟨rfl,o⟩;have C:AU w w1:=by exact ER
 have X2:AO _ w.heap.size 206 #[.int .i64 s.arc.id,.int .i64 s.arc.fr,.int .i64 s.arc.dst,.slice A n c,.int .i64 s.arc.left,.int .i64 s.arc.right,.int .i64 s.i,.int .i64 s.n,.int .i64 s.a.x,.int .i64 s.a.y,.int .i64 s.b.x,.int .i64 s.b.y]:=AO.keep (by repeat(first|exact AO.made Ak _ _|refine AO.alloc ?_ _)) o;have X3:AO _ (w.heap.size+1) 206 #[.int .i64 t.arc.id,.int .i64 t.arc.fr,.int .i64 t.arc.dst,.slice T U c',.int .i64 t.arc.left,.int .i64 t.arc.right,.int .i64 t.i,.int .i64 t.n,.int .i64 t.a.x,.int .i64 t.a.y,.int .i64 t.b.x,.int .i64 t.b.y]:=AO.keep (by repeat(first|exact AO.made Ak _ _|refine AO.alloc ?_ _)) o;clear o;generalize GU s.a s.b t.a t.b=m at*;obtain⟨BX,Bf,Bh,CS,aAA,X2e,X2f,X2g,X2h,X2i,X2j,X2k,BX,-⟩:=X2.UY;obtain⟨E5,Em,Ew,MV,MH,Qu,Qn,WH,WI,WJ,WL,WM,E5,-⟩:=X3.UY;cases h1:(t.i:Int)==(s.i:Int)+1;case true=>have j:=V (show(m==1)=q by rw[<-z.1,AZ];left;have:=eq_of_beq h1;omega);go_wp2;go_ret;exact⟨Cm j.1,C⟩
 cases h2:(s.i:Int)==0;case false=>have j:=V (show(m==0)=q by rw[<-z.1,AX];simp only[beq_eq_false_iff_ne]at h1 h2;omega);go_wp2;go_ret;exact⟨Cm j.1,C⟩
 cases h3:(t.i:Int)==(t.n:Int)-1;case false=>have j:=V (show(m==0)=q by rw[<-z.1,AX];simp only[beq_eq_false_iff_ne,beq_iff_eq]at h1 h2 h3;omega);go_wp2;go_ret;exact⟨Cm j.1,C⟩
 cases h4:s.arc.fr==s.arc.dst;case false=>have j:=V (show(m==0)=q by rw[<-z.1,AX];simp only[beq_eq_false_iff_ne,beq_iff_eq]at h1 h2 h3 h4;omega);go_wp2;go_ret;exact⟨Cm j.1,C⟩
 have j:=V (show(m==1)=q by rw[<-z.1,AZ];simp only[beq_eq_false_iff_ne,beq_iff_eq]at h1 h2 h3 h4;omega);go_wp2;go_ret;exact⟨Cm j.1,C⟩
def OC(s t:Sg)(x:Nd):Bool:=Vj s.arc x.id&&Vj t.arc x.id&&MG s.a s.b x.pt&&MG t.a t.b x.pt
def OD(p:Pl)(s t:Sg):Bool:=if GU s.a s.b t.a t.b=1 then p.nodes.any<|OC s t else GU s.a s.b t.a t.b==0
theorem anz(v:Value)(p:Pl)(s t:Sg)(A A':Option Addr)(n n' c c':Nat)(w:World)(h:Cj w v p):Calls prog 199 #[v,UG s<|.slice A n c,UG t<|.slice A' n' c'] w λe w'=>e=.returned (.bool<|OD p s t)/\AU w w':=by
 have TM:∀W,Calls prog 248 #[BD s.a,BD s.b,BD t.a,BD t.b] W _:=λW=>afF s.a s.b t.a t.b W;have TE:∀(a:Ar)(A:Option Addr)(n c:Nat)(id:Int)W,Calls prog 249 #[.agg #[.int .i64 a.id,.int .i64 a.fr,.int .i64 a.dst,.slice A n c,.int .i64 a.left,.int .i64 a.right],.int .i64 id] W _:=λa A n c id W=>aom a A n c id W;have TO:∀p q r:Pt,∀W,Calls prog 114 #[BD p,BD q,BD r] W _:=λp q r W=>af5 p q r W;unfold BD at TM TO;have HM:=V TM;clear TM;have HE:=V TE;clear TE;have HO:=V TO;clear TO;obtain⟨_,va,vf,al,rfl,-,⟨An,cn,rfl,hn1,hn2,hR⟩,-⟩:=h;unfold maxLen at hn2;have HR:=V hR;clear hR;unfold UG;obtain⟨q,hq⟩:=BM<|OD p s t;rw[hq];unfold OD at hq;generalize p.nodes=l at*;have Hq:=V hq;clear hq;go_enter func199,ntmps199;go_wp2_with fail;refine(HM.1 _).mono ?_;rintro e w1⟨rfl,hb1⟩;have Bw:AU w w1:=by exact ER
 have K:AO _ w.heap.size 26 #[.slice An l.length cn,va,vf]:=AO.keep (by repeat(first|exact AO.made Ak _ _|refine AO.alloc ?_ _)) hb1;have M:AO _ (w.heap.size+1) 206 #[.int .i64 s.arc.id,.int .i64 s.arc.fr,.int .i64 s.arc.dst,.slice A n c,.int .i64 s.arc.left,.int .i64 s.arc.right,.int .i64 s.i,.int .i64 s.n,.int .i64 s.a.x,.int .i64 s.a.y,.int .i64 s.b.x,.int .i64 s.b.y]:=AO.keep (by repeat(first|exact AO.made Ak _ _|refine AO.alloc ?_ _)) hb1;have T:AO _ (w.heap.size+1+1) 206 #[.int .i64 t.arc.id,.int .i64 t.arc.fr,.int .i64 t.arc.dst,.slice A' n' c',.int .i64 t.arc.left,.int .i64 t.arc.right,.int .i64 t.i,.int .i64 t.n,.int .i64 t.a.x,.int .i64 t.a.y,.int .i64 t.b.x,.int .i64 t.b.y]:=AO.keep (by repeat(first|exact AO.made Ak _ _|refine AO.alloc ?_ _)) hb1;clear hb1;generalize GU s.a s.b t.a t.b=m at*;by_cases h1:m=1;case neg=>
  have hf:=V (show(m==0)=q by rw[<-Hq.1,AX h1]);have h1':(m !=1)=true:=by simpa using h1
  clear h1;go_wp2;go_ret;exact⟨Cm hf.1,Bw⟩
 subst h1;have hf:=V (show l.any (OC s t)=q by rw[<-Hq.1,AZ rfl]);clear Hq;obtain⟨CW,FN,D7,HB⟩:=D9 K M T Bw;clear K M T Bw;go_wp2_with fail;go_loopw[8](λi wr=>∃k:Nat,k<=l.length/\i=.int .i64 k/\AU w1 wr/\∀j(hj:j<l.length),j<k->OC s t l[j]=false)λi _=>l.length-(intOf i).toNat;case atStart=>exact⟨0,C9 _,rfl,bR w1,λj _ h=>I⟩
 obtain⟨k,hk,rfl,hb,hno⟩:=hrel;have Hb:=V hb;have Hno:=V hno;have K:=CW.1.keep hb;have M:=FN.1.keep hb;have T:=D7.1.keep hb;clear hb hno;obtain⟨BX,Bf,Bh,CS,-⟩:=K.BF;obtain⟨z,Em,Ew,MV,MH,Qu,Qn,WH,WI,WJ,WL,WM,z,-⟩:=M.UY;obtain⟨C,Bq,CP,Fe,KW,Le,Lh,iY,iZ,ig,iq,iw,C,-⟩:=T.UY;by_cases hlt:k<l.length;case neg=>have hg:=V<|Vf l (OC s t)<|λj hj=>Hno.1 j hj I;go_wp2;go_ret;exact⟨Cm<|by rw[<-hf.1,hg.1],J HB.1 Hb.1⟩
 obtain⟨b,o,rfl,hlb,c0,c1,c2⟩:=(HR.1.mono<|J HB.1 Hb.1).nd hlt;have hx:=V<|show OC s t l[k]=(Vj s.arc l[k].id&&Vj t.arc l[k].id&&MG s.a s.b l[k].pt&&MG t.a t.b l[k].pt)from rfl;go_wp2_with fail;refine(HE.1 _ _ _ _ _ _).mono ?_;rintro e w2⟨rfl,hb2⟩;have B2:AU w1 w2:=J (bA Hb.1 _) hb2;have X5:AO w2 wr.heap.size 56 #[.int .i64 l[k].id,.int .i64 l[k].pt.x,.int .i64 l[k].pt.y]:=(AO.made rfl _ _).keep hb2;replace K:=(K.alloc _).keep hb2;replace M:=(M.alloc _).keep hb2;replace T:=(T.alloc _).keep hb2;clear hb2 c0 c1 c2 hlb;try clear BX Bf Bh CS
 obtain⟨BX,Bf,Bh,CS,-⟩:=K.BF;try clear z Em Ew MV MH Qu Qn WH WI WJ WL WM z
 obtain⟨z,Em,Ew,MV,MH,Qu,Qn,WH,WI,WJ,WL,WM,z,-⟩:=M.UY;try clear C Bq CP Fe KW Le Lh iY iZ ig iq iw C
 obtain⟨C,Bq,CP,Fe,KW,Le,Lh,iY,iZ,ig,iq,iw,C,-⟩:=T.UY;obtain⟨CJ,CO,CQ,Gi,-⟩:=X5.BF;cases e1:Vj s.arc l[k].id;case false=>
  have hy:=V (show OC s t l[k]=false by rw[hx.1,e1];rfl);clear e1;go_wp2;go_roundw;case rel=>exact⟨k+1,I,BH,B2,all_succ (p:=λx=>OC s t x=false) Hno.1 hlt hy.1⟩
  exact BJ
 have H1:=V e1;clear e1;go_wp2_with fail;refine(HE.1 _ _ _ _ _ _).mono ?_;rintro e w3⟨rfl,U⟩;replace B2:AU w1 w3:=J B2 U;replace K:=K.keep U;replace M:=M.keep U;replace T:=T.keep U;replace X5:=X5.keep U;clear U;try clear BX Bf Bh CS
 obtain⟨BX,Bf,Bh,CS,-⟩:=K.BF;try clear z Em Ew MV MH Qu Qn WH WI WJ WL WM z
 obtain⟨z,Em,Ew,MV,MH,Qu,Qn,WH,WI,WJ,WL,WM,z,-⟩:=M.UY;try clear C Bq CP Fe KW Le Lh iY iZ ig iq iw C
 obtain⟨C,Bq,CP,Fe,KW,Le,Lh,iY,iZ,ig,iq,iw,C,-⟩:=T.UY;try clear CJ CO CQ Gi
 obtain⟨CJ,CO,CQ,Gi,-⟩:=X5.BF;cases e2:Vj t.arc l[k].id;case false=>
  have hy:=V (show OC s t l[k]=false by rw[hx.1,e2];simp);clear e2;go_wp2;go_roundw;case rel=>exact⟨k+1,I,BH,B2,all_succ (p:=λx=>OC s t x=false) Hno.1 hlt hy.1⟩
  exact BJ
 have H2:=V e2;clear e2;go_wp2_with fail;refine(HO.1 s.a s.b l[k].pt _).mono ?_;rintro e w4⟨rfl,hb4⟩;replace B2:AU w1 w4:=J B2 hb4;replace K:=K.keep hb4;replace M:=M.keep hb4;replace T:=T.keep hb4;replace X5:=X5.keep hb4;clear hb4;try clear BX Bf Bh CS
 obtain⟨BX,Bf,Bh,CS,-⟩:=K.BF;try clear z Em Ew MV MH Qu Qn WH WI WJ WL WM z
 obtain⟨z,Em,Ew,MV,MH,Qu,Qn,WH,WI,WJ,WL,WM,z,-⟩:=M.UY;try clear C Bq CP Fe KW Le Lh iY iZ ig iq iw C
 obtain⟨C,Bq,CP,Fe,KW,Le,Lh,iY,iZ,ig,iq,iw,C,-⟩:=T.UY;try clear CJ CO CQ Gi
 obtain⟨CJ,CO,CQ,Gi,-⟩:=X5.BF;cases e3:MG s.a s.b l[k].pt;case false=>
  have hy:=V (show OC s t l[k]=false by rw[hx.1,e3];simp);clear e3;go_wp2;go_roundw;case rel=>exact⟨k+1,I,BH,B2,all_succ (p:=λx=>OC s t x=false) Hno.1 hlt hy.1⟩
  exact BJ
 have H3:=V e3;clear e3;go_wp2_with fail;refine(HO.1 t.a t.b l[k].pt _).mono ?_;rintro e w5⟨rfl,hb5⟩;replace B2:AU w1 w5:=J B2 hb5;replace K:=K.keep hb5;replace M:=M.keep hb5;replace T:=T.keep hb5;replace X5:=X5.keep hb5;clear hb5;try clear BX Bf Bh CS
 obtain⟨BX,Bf,Bh,CS,-⟩:=K.BF;try clear z Em Ew MV MH Qu Qn WH WI WJ WL WM z
 obtain⟨z,Em,Ew,MV,MH,Qu,Qn,WH,WI,WJ,WL,WM,z,-⟩:=M.UY;try clear C Bq CP Fe KW Le Lh iY iZ ig iq iw C
 obtain⟨C,Bq,CP,Fe,KW,Le,Lh,iY,iZ,ig,iq,iw,C,-⟩:=T.UY;try clear CJ CO CQ Gi
 obtain⟨CJ,CO,CQ,Gi,-⟩:=X5.BF;cases e4:MG t.a t.b l[k].pt;case false=>
  have hy:=V (show OC s t l[k]=false by rw[hx.1,e4];simp);clear e4;go_wp2;go_roundw;case rel=>exact⟨k+1,I,BH,B2,all_succ (p:=λx=>OC s t x=false) Hno.1 hlt hy.1⟩
  exact BJ
 have hg:=V<|UE l (OC s t) k hlt (by rw[hx.1,H1.1,H2.1,H3.1,e4];rfl);clear e4;go_wp2;go_ret;exact⟨Cm<|by rw[<-hf.1,hg.1],J HB.1 B2⟩
def UH(s:Sg)(x:Nd):Bool:=(s.i:Int)==0&&s.arc.fr==x.id||(s.i:Int)==(s.n:Int)-1&&s.arc.dst==x.id
def UJ(s:Sg)(x:Nd):Bool:=UH s x||!MG s.a s.b x.pt
def WO(s:Sg):Bool:=!decide (s.a=s.b)&&(s.arc.fr !=s.arc.dst||decide (3<=(s.n:Int)))
def SA(p:Pl)(s:Sg):Bool:=p.nodes.all (UJ s)&&WO s
theorem dW{α:Type}(l:List α)(q:α->Bool)(k:Nat)(hk:k<l.length)(h:q l[k]=false):l.all q=false:=aT.2 ⟨l[k],BG hk,by simp[h]⟩
theorem rF{α:Type}(l:List α)(q:α->Bool)(h:∀j(o:j<l.length),q l[j]=true):l.all q=true:=KO.2 λx c=>by obtain⟨i,hi,rfl⟩:=Dy.1 c;exact h i hi
theorem ao0(v:Value)(p:Pl)(s:Sg)(A:Option Addr)(n c:Nat)(w:World)(h:Cj w v p)(hs1:s.i<=2097152)(hs2:s.n<=2097152):Calls prog 197 #[v,UG s<|.slice A n c] w λe w'=>e=.returned (.bool<|SA p s)/\AU w w':=by
 have TO:∀p q r:Pt,∀W,Calls prog 114 #[BD p,BD q,BD r] W _:=λp q r W=>af5 p q r W;unfold BD at TO;have HO:=V TO;clear TO;obtain⟨_,va,vf,al,rfl,-,⟨An,cn,rfl,hn1,hn2,hR⟩,-⟩:=h;unfold maxLen at hn2;have HR:=V hR;clear hR;unfold UG;obtain⟨q,hq⟩:=BM<|SA p s;rw[hq];unfold SA at hq;generalize p.nodes=l at*;have Hq:=V hq;clear hq;go_enter func197,ntmps197;go_wp2_with fail;obtain⟨W0,C⟩:=BR<|(w.alloc<|.cells #[.slice An l.length cn,va,vf] 26).alloc<|.cells #[.int .i64 s.arc.id,.int .i64 s.arc.fr,.int .i64 s.arc.dst,.slice A n c,.int .i64 s.arc.left,.int .i64 s.arc.right,.int .i64 s.i,.int .i64 s.n,.int .i64 s.a.x,.int .i64 s.a.y,.int .i64 s.b.x,.int .i64 s.b.y] 206;have Bw:AU w W0:=by rw[C];exact bA (bA (bR w) _) _
 have T:AO W0 w.heap.size 26 #[.slice An l.length cn,va,vf]:=by rw[C];exact(AO.made rfl _ _).alloc _
 have U:AO W0 (w.heap.size+1) 206 #[.int .i64 s.arc.id,.int .i64 s.arc.fr,.int .i64 s.arc.dst,.slice A n c,.int .i64 s.arc.left,.int .i64 s.arc.right,.int .i64 s.i,.int .i64 s.n,.int .i64 s.a.x,.int .i64 s.a.y,.int .i64 s.b.x,.int .i64 s.b.y]:=by rw[C];exact AO.made Ak _ _
 rw[<-C];obtain⟨CW,FN,HB⟩:=CB T U Bw;clear T U Bw C;go_loopw[5](λi wr=>∃k:Nat,k<=l.length/\i=.int .i64 k/\AU W0 wr/\∀j(hj:j<l.length),j<k->UJ s l[j]=true)λi _=>l.length-(intOf i).toNat;case atStart=>exact⟨0,C9 _,rfl,bR W0,λj _ h=>I⟩
 obtain⟨k,hk,rfl,hb,hno⟩:=hrel;have Hb:=V hb;have Hno:=V hno;have T:=CW.1.keep hb;have U:=FN.1.keep hb;clear hb hno;obtain⟨BX,Bf,Bh,CS,-⟩:=T.BF;obtain⟨E5,Em,Ew,MV,MH,Qu,Qn,WH,WI,WJ,WL,WM,E5,-⟩:=U.UY;by_cases hlt:k<l.length;case neg=>
  have hg:=V<|rF l (UJ s)<|λj hj=>Hno.1 j hj I;have hf:=V (show WO s=q by rw[<-Hq.1,hg.1];rfl);have hE:=afM s.a s.b;by_cases h1:s.a=s.b;.have M:decide (s.a=s.b)=true:=Ia h1;have z:=V (show false=WO s by rw[WO,M];rfl);have H1:=V h1;clear h1;go_wp2;go_ret;exact⟨Cm<|z.1.trans hf.1,J HB.1 Hb.1⟩
  have M:decide (s.a=s.b)=false:=GX h1;have H1:=V h1;clear h1;cases h2:s.arc.fr !=s.arc.dst;.have z:=V (show decide (3<=(s.n:Int))=WO s by rw[WO,M,h2];rfl);go_wp2;go_ret;exact⟨Cm<|z.1.trans hf.1,J HB.1 Hb.1⟩
  have z:=V (show true=WO s by rw[WO,M,h2];rfl);go_wp2;go_ret;exact⟨Cm<|z.1.trans hf.1,J HB.1 Hb.1⟩
 obtain⟨b,o,rfl,hlb,c0,c1,c2⟩:=(HR.1.mono<|J HB.1 Hb.1).nd hlt;go_upto_region 5 with fail;obtain⟨W1,K⟩:=BR<|wr.alloc<|.cells #[.int .i64 l[k].id,.int .i64 l[k].pt.x,.int .i64 l[k].pt.y] 56;have B1:AU W0 W1:=by rw[K];exact bA Hb.1 _
 have X6:AO W1 wr.heap.size 56 #[.int .i64 l[k].id,.int .i64 l[k].pt.x,.int .i64 l[k].pt.y]:=by rw[K];exact AO.made rfl _ _
 have hA1:AU wr W1:=by rw[K];exact bA (bR wr) _
 replace T:=T.keep hA1;replace U:=U.keep hA1;rw[<-K];clear c0 c1 c2 hlb K hA1;try clear BX Bf Bh CS
 obtain⟨BX,Bf,Bh,CS,-⟩:=T.BF;try clear E5 Em Ew MV MH Qu Qn WH WI WJ WL WM E5
 obtain⟨E5,Em,Ew,MV,MH,Qu,Qn,WH,WI,WJ,WL,WM,E5,-⟩:=U.UY;obtain⟨EW,EX,EY,Ov,-⟩:=X6.BF;go_cut[7]λu wx=>u=.bool (UH s l[k])/\wx=W1;case first=>
  cases h1:(s.i:Int)==0;case true=>
   cases h2:s.arc.fr==l[k].id;case true=>have z:=V (show true=UH s l[k]by rw[UH,h1,h2];rfl);go_wp2;go_meet;exact⟨congrArg Value.bool z.1,rfl⟩
   cases h3:(s.i:Int)==(s.n:Int)-1;case false=>have z:=V (show false=UH s l[k]by rw[UH,h1,h2,h3];rfl);go_wp2;go_meet;exact⟨congrArg Value.bool z.1,rfl⟩
   have z:=V (show(s.arc.dst==l[k].id)=UH s l[k]by rw[UH,h1,h2,h3];rfl);go_wp2;go_meet;exact⟨congrArg Value.bool z.1,rfl⟩
  cases h3:(s.i:Int)==(s.n:Int)-1;case false=>have z:=V (show false=UH s l[k]by rw[UH,h1,h3];rfl);go_wp2;go_meet;exact⟨congrArg Value.bool z.1,rfl⟩
  have z:=V (show(s.arc.dst==l[k].id)=UH s l[k]by rw[UH,h1,h3];rfl);go_wp2;go_meet;exact⟨congrArg Value.bool z.1,rfl⟩
 obtain⟨rfl,rfl⟩:=hcut;cases e1:UH s l[k];case true=>
  have hy:=V (show UJ s l[k]=true by rw[UJ,e1];rfl);clear e1;go_wp2;go_roundw;case rel=>exact⟨k+1,I,BH,B1,all_succ (p:=λx=>UJ s x=true) Hno.1 hlt hy.1⟩
  exact BJ
 have E1:=V e1;clear e1;go_wp2_with fail;refine(HO.1 s.a s.b l[k].pt _).mono ?_;rintro e w4⟨rfl,hb4⟩;have B4:=J B1 hb4;cases e3:MG s.a s.b l[k].pt;case false=>
  have hy:=V (show UJ s l[k]=true by rw[UJ,e3];simp);clear e3;go_wp2;go_roundw;case rel=>exact⟨k+1,I,BH,B4,all_succ (p:=λx=>UJ s x=true) Hno.1 hlt hy.1⟩
  exact BJ
 have hg:=V<|dW l (UJ s) k hlt (by rw[UJ,E1.1,e3];rfl);clear e3;go_wp2;go_ret;exact⟨Cm<|by rw[<-Hq.1,hg.1];rfl,J HB.1 B4⟩
section
variable{α β:Type}{w w':World}{base base':Nat}{e e':TypeId}{size size':Nat}{f:α->List Value}{f':β->List Value}{v v':Value}{l:List α}{l':List β}
theorem Own.grown(h:Own w base e size f v l){row:Option Nat}(z:w.grownBy w' row)(j:∀g,v.ownBlock=some g->some g≠row):Own w' base e size f v l:=by
 obtain⟨h1,h2⟩:=h;refine⟨h1,?_⟩;rcases h2 with h2|⟨g,o,c,hv,s,C,r⟩;.exact .inl h2
 subst hv;refine .inr ⟨g,o,c,rfl,s,?_,r⟩;exact AO.grown (t:=e) (cs:=c) C z<|j g rfl
theorem Own.blk(h:Own w base e size f v l){g:Nat}(c:v.ownBlock=some g):∃cs,AO w g e cs:=by
 rcases h.2 with⟨rfl,_⟩|⟨g',j,o,rfl,_,s,_⟩;.simp[Value.ownBlock]at c
 have:g'=g:=by simpa[Value.ownBlock]using c
 subst this;exact⟨_,s⟩
theorem Own.apart(h:Own w base e size f v l)(o:Own w base' e' size' f' v' l')(c:e≠e'):∀g,v.ownBlock=some g->some g≠v'.ownBlock:=by intro g s j;obtain⟨cs,h1⟩:=h.blk s;obtain⟨cs',h2⟩:=o.blk j.symm;exact AO.Nh h1 h2 c rfl
end
def AY:Pt:=⟨0,0⟩
def LV(a:Ar)(l:List Pt):List Sg:=(List.range<|l.length-1).map λk=>⟨a,k,l.length-1,l.getD k AY,l.getD (k+1) AY⟩
def Vk(p:Pl):List Sg:=p.AP.flatMap λa=>LV a<|AV p a
theorem aAB(a:Ar)(l:List Pt):(LV a l).length=l.length-1:=by simp[LV]
theorem ao1(a:Ar)(l:List Pt)(k:Nat)(hk:k+1<l.length):(LV a l).take (k+1)=(LV a l).take k++[⟨a,k,l.length-1,l[k],l[k+1]⟩]:=by
 have h:k<(LV a l).length:=by rw[aAB];omega
 rw[Eu h];simp[LV,List.getD,DK hk,DK<|show k<l.length by omega]
theorem En(p:Pl)(a:Ar):(AV p a).length=a.via.length+2:=by simp[AV]
theorem agB(p:Pl)(l:List Ar):(l.flatMap λa=>LV a<|AV p a).length=(l.flatMap (·.via)).length+l.length:=by induction l with|nil=>rfl|cons a l c=>simp only[LC,EK,c,aAB,En,Gy];omega
def ao2(w:World)(l:List Sg)(e:Ending)(w':World):Prop:=∃sl v,sl.map (·.1)=l/\e=.returned v/\AU w w'/\Own w' w.heap.size 206 12 dV v sl
theorem ao3:Elem prog 202 206 12 112:=Elem.QI (z:=.agg #[.int .i64 0,.int .i64 0,.int .i64 0,.slice none 0 0,.int .i64 0,.int .i64 0,.int .i64 0,.int .i64 0,.int .i64 0,.int .i64 0,.int .i64 0,.int .i64 0]) IK IK rfl I
theorem ao4(s:Sg×SV):(dV s).length=12:=rfl
theorem ao5(s:Sg×SV):∀u∈dV s,u.oneCell'=true:=by simp[dV,Value.oneCell']
theorem Sl.ao6{w:World}{g:Nat}{t:TypeId}{s:Sg}{u:SV}{n:Int}(hn:n=s.n)(h:AO w g t #[.int .i64 s.arc.id,.int .i64 s.arc.fr,.int .i64 s.arc.dst,.slice u.a u.n u.c,.int .i64 s.arc.left,.int .i64 s.arc.right,.int .i64 s.i,.int .i64 n,.int .i64 s.a.x,.int .i64 s.a.y,.int .i64 s.b.x,.int .i64 s.b.y]):Sl w (.slice (some ⟨g,0,none⟩) 1 1) ([(s,u)]:List<|Sg×SV).length<|([(s,u)]:List<|Sg×SV).flatMap dV:=by subst hn;exact Sl.lit (n:=1) h rfl<|DC I
theorem ao7(v:Value)(p:Pl)(w:World)(h:Cj w v p)(hl1:p.AP.length<=4096)(hl2:(p.AP.flatMap (·.via)).length<=1048576):Calls prog 196 #[v] w<|ao2 w<|Vk p:=by
 have HP:=V h;obtain⟨vn,_,vf,al,rfl,U,-,⟨⟨Aa,ca,rfl,ha1,ha2,G6⟩,hV⟩,-⟩:=h;unfold maxLen at ha2;have hS:Vk p=al.flatMap λa=>LV a.1<|AV p a.1:=by unfold Vk;rw[U,Qm]
 have hL:∀k,((al.take k).flatMap λa=>LV a.1<|AV p a.1).length<=1052672:=λk=>by have h1:=aCx al (λa=>LV a.1<|AV p a.1) k;rw[<-hS]at h1;unfold Vk at h1;rw[agB]at h1;omega
 have hsh:∀k(hk:k<al.length),al[k].1.via.length<=1048576:=λk hk=>by have h1:=aau al (λa=>a.1.via) k hk;rw[U,Qm]at hl2;omega
 have hl:al.length<=4096:=by rw[U,D6]at hl1;exact hl1
 rw[hS];obtain⟨HL,DN,HV⟩:=CB hL hsh hV;clear hV;have IU:=V G6;clear G6;clear hS U hl1 hl2 hL hsh;go_enter func196,ntmps196;go_wp2_with fail;obtain⟨W0,hW0⟩:=BR<|w.alloc<|.cells #[vn,.slice Aa al.length ca,vf] 26;have X1:AO W0 w.heap.size 26 #[vn,.slice Aa al.length ca,vf]:=by rw[hW0];exact AO.made rfl _ _
 have GI:AU w W0:=by rw[hW0];exact bA (bR w) _
 have HX0:=V X1;have hwz:=X1.lt;rw[<-hW0];clear hW0 X1;go_loopw[3,4](λs i wr=>∃(k:Nat)(sl:List<|Sg×SV),k<=al.length/\i=.int .i64 k/\sl.map (·.1)=((al.take k).flatMap λa=>LV a.1<|AV p a.1)/\Own wr W0.heap.size 206 12 dV s sl/\AU W0 wr)λ_ i _=>al.length-(intOf i).toNat;case atStart=>exact⟨0,[],C9 _,rfl,rfl,Own.nil _ _ _ _ _,bR W0⟩
 obtain⟨k,sl,hk,rfl,hsl,hown,hb⟩:=hrel;obtain⟨Hb,F7,Vl⟩:=CB hb hown hsl;have X1:=HX0.1.keep hb;have hsz:=hb.size;clear hb hown hsl;obtain⟨Au,Aw,Az,BA,-⟩:=X1.BF;by_cases hlt:k<al.length;case neg=>have hE:al.take k=al:=Ip I;have Hf:=V (show sl.map (·.1)=al.flatMap λa=>LV a.1<|AV p a.1 by rw[Vl.1,hE]);clear hE;go_wp2;go_ret;exact⟨sl,_,Hf.1,rfl,J GI Hb.1,F7.1.EN GI.size⟩
 obtain⟨b,o,rfl,hlb,c0,c1,c2,c3,c4,c5⟩:=(IU.1.mono<|J GI Hb.1).ar hlt;have C:=HV.1 k hlt;obtain⟨Av,cv,hv,-⟩:=C;have C:=HV.1 k hlt;rw[hv]at c3 C;generalize hvl:al[k].1.via.length=vl at c3;obtain⟨aFu,UD,agC⟩:=CB hvl C<|DN.1 k hlt;have q1:0<=(k:Int):=I;have q2:(k:Int)<al.length:=I;have Hlk:=V<|HL.1<|k+1;clear C hv hvl;have TL:∀W,AU w W->Calls prog 141 #[.agg #[vn,.slice (some ⟨b,o,none⟩) al.length ca,vf],.agg #[.int .i64 al[k].1.id,.int .i64 al[k].1.fr,.int .i64 al[k].1.dst,.slice Av vl cv,.int .i64 al[k].1.left,.int .i64 al[k].1.right]] W (aaz W (AV p al[k].1)<|KD p al[k].1):=λW hW=>by have:=ab1 _ _ p al[k].1 _ (HP.1.mono hW) (UD.1.mono hW) agC.1;rw[aFu.1]at this;exact this
 have HT:=V TL;clear TL;go_upto_region 5 with fail;go_cut[5]λs wx=>∃A1 n1 c1,s=.slice A1 n1 c1/\n1=(AV p al[k].1).length/\Own wx wr.heap.size 50 2 Ep (.slice A1 n1 c1) (AV p al[k].1)/\AU wr wx;case first=>
  refine CZ wr (.run 6 0 0<|.call 6 127<|.run 5 7 127<|.done) λCG QR Ae Aj hS=>?_;iterate 6 refine Ah ?_
  refine BP ?_;clear hS;intro K hK AQ;go_simp;refine(HT.1 _<|J (J GI Hb.1) AQ.out).mono ?_;rintro e Bv⟨v1,rfl,Bj,ho1⟩;have hS:Since wr Bv:=J (w:=wr) AQ.out Bj;clear AQ;refine hK.out _ _ hS λ_=>?_;clear hK K;try simp only[pu]
  iterate 5 refine Ah ?_
  refine CX ?_;clear hS Aj Ae;intro hB;obtain⟨A1,c1',rfl,-⟩:=Own.sl ho1;go_wp2;go_meet;exact⟨A1,_,c1',rfl,rfl,ho1.EN Ak,hB⟩
 obtain⟨A1,n1,c1',rfl,rfl,agD,hBc⟩:=hcut;have T:Own wc W0.heap.size 206 12 dV _ sl:=F7.1.keep hBc;have Bc:=J Hb.1 hBc;have azI:=hBc.size;have hmx:(AV p al[k].1).length<=maxLen:=by rw[En];have:=agC.1;exact DC I
 unfold maxLen at hmx;have hpl2:2<=(AV p al[k].1).length:=by rw[En];omega
 generalize aA7:AV p al[k].1=c at*;have aA8:=V aA7;obtain⟨M,hM⟩:∃M,c.length=M+1:=⟨c.length-1,I⟩;have HM:=V hM;have hM1:M<c.length:=I;obtain⟨Hp0,Hs0,HBc⟩:=CB agD T Bc;clear agD T Bc hBc aA7 hM HT X1 Au Aw Az BA c0 c1 c2 c3 c4 c5;obtain⟨wo,rfl⟩:=BR wr;go_wp2_with fail;go_loopw[3,7](λs i wx=>∃(j:Nat)(sx:List<|Sg×SV),j+1<=c.length/\i=.int .i64 j/\sx.map (·.1)=((al.take k).flatMap λa=>LV a.1<|AV p a.1)++(LV al[k].1 c).take j/\Own wx W0.heap.size 206 12 dV s sx/\Own wx wo.heap.size 50 2 Ep (.slice A1 c.length c1') c/\AU W0 wx)λ_ i _=>c.length-(intOf i).toNat;case atStart=>exact⟨0,sl,I,rfl,by rw[Vl.1];simp,Hs0.1,Hp0.1,HBc.1⟩
 obtain⟨j,sx,hj,rfl,hsx,aAC,hpx,hbx⟩:=hrel;obtain⟨GV,Zp,aCz,o7⟩:=D9 hbx aAC hpx hsx;have ab2:=hbx.size;have X1:=HX0.1.keep hbx;clear hbx aAC hpx hsx;try clear Au Aw Az BA
 obtain⟨Au,Aw,Az,BA,-⟩:=X1.BF;by_cases hlj:j+1<c.length;case neg=>
  have hjm:j=M:=by have:=HM.1;omega
  have Hf:=V (show sx.map (·.1)=(al.take<|k+1).flatMap λa=>LV a.1<|AV p a.1 by rw[o7.1,Eu hlt,LY,Ip (l:=LV al[k].1 c)<|by rw[aAB];omega];simp[aA8.1]);clear hjm;go_wp2;go_roundw;case rel=>exact⟨k+1,sx,I,BH,Hf.1,Zp.1,GV.1⟩
  exact BJ
 obtain⟨b',o',F6,Po,d0,d1,d2,d3,d4,d5⟩:=(IU.1.mono<|J GI GV.1).ar hlt;simp only[JU,Addr.mk.injEq,and_true]at F6;obtain⟨rfl,rfl⟩:=F6;have C:=HV.1 k hlt;obtain⟨Av',cv',hv,-⟩:=C;have z:=Own.sl aCz.1;obtain⟨A1',ao8,he1,-,-,z⟩:=z;injection he1 with he1 _ he3;subst he1;subst he3;obtain⟨pb,po,aaQ,hlp,f0,f1⟩:=z.pt (k:=j) I;subst aaQ;obtain⟨pb',po',aAD,agE,f2,f3⟩:=z.pt (k:=j+1) hlj;simp only[JU,Addr.mk.injEq,and_true]at aAD;obtain⟨rfl,rfl⟩:=aAD;rw[hv]at d3;clear z hv;have rG:=DR<|(j:Int)+1;have w2e:IntKind.i64.wrap ((c.length:Int)-1)=(M:Int):=by have:=HM.1;rw[Gz _ I];omega
 have r1:0<=(j:Int):=I;have r2:(j:Int)<c.length:=I;have r3:0<=(j:Int)+1:=I;have r4:(j:Int)+1<c.length:=I;have r5:((j:Int)+1).toNat=j+1:=I;have r6:0<=(k:Int):=I;have r7:(k:Int)<al.length:=I;have hb0:b<w.heap.size:=by obtain⟨b2,o2,e2,h2,-⟩:=IU.1.ar hlt;simp only[JU,Addr.mk.injEq,and_true]at e2;omega
 have n1:some w.heap.size≠(u3:Value).ownBlock:=λe=>by have:=(Zp.1.lt _ e.symm).1;omega
 have n2:some b≠(u3:Value).ownBlock:=λe=>by have:=(Zp.1.lt _ e.symm).1;omega
 have n3:some pb≠(u3:Value).ownBlock:=Own.apart aCz.1 Zp.1 BI pb rfl;have agF:=V (show sx.length+1<=1052673 by have h1:=Hlk;have h2:=congrArg List.length o7.1;rw[D6,EK,JF,aAB]at h2;have h3:=HL.1<|k+1;rw[Eu hlt,LY,EK]at h3;simp only[LC,aCa,I9,aAB,aA8.1]at h3;omega);clear hb0;go_upto_region 9 with fail;refine Wn wr (u3:Value).ownBlock (.run 20 0 0<|.call 20 2097151<|.call 21 4194303<|.take 22 8388607<|.done) λCG QR Ae Aj hS=>?_;iterate 20 refine Ah ?_
 refine BP ?_;clear hS;intro K hK AQ;go_simp;refine hK.out _ _ (gA AQ.out _) λhS=>?_;clear hK K AQ;try simp only[pu]
 refine BP ?_;clear hS;intro K hK AQ;refine Ir (.tmp 32) (.tmp 52) _ rfl (base:=W0.heap.size) ao3 ao4 ao5 rfl ((Zp.1.drew).alloc _) rfl (l2:=[((⟨al[k].1,j,c.length-1,c[j],c[j+1]⟩:Sg),(⟨Av',al[k].1.via.length,cv'⟩:SV))]) (Sl.ao6 (n:=(M:Int)) (by have:=HM.1;simp only[];omega)<|AO.made Ak _ _) (by have:=agF.1;simp only[Gy,Nb];omega) (by have:=agF.1;simp only[Gy,Nb];omega) D8 ?_;intro v3 wr3 ho3 hg hat;have hS:aV wr (u3:Value).ownBlock wr3:=gT AQ.out hg;clear AQ;refine hK.out _ _ hS λ_=>?_;clear hK K;try simp only[pu]
 refine Ah ?_;refine U7 ?_;clear hS Aj Ae;intro hB;obtain⟨aAE,Hpy,Hby⟩:=CB ho3 (aCz.1.grown hB<|λg hg=>Own.apart aCz.1 Zp.1 BI g hg)<|afN GV.1 ab2 hB<|λg hg=>(Zp.1.lt g hg).1;have Hsy:=V (show(sx++[((⟨al[k].1,j,c.length-1,c[j],c[j+1]⟩:Sg),(⟨Av',al[k].1.via.length,cv'⟩:SV))]).map (·.1)=((al.take k).flatMap λa=>LV a.1<|AV p a.1)++(LV al[k].1 c).take (j+1)by rw[Gt,o7.1,ao1 _ _ _ hlj,Jv];rfl);clear ho3 hg hat hB d0 d1 d2 d3 d4 d5 f0 f1 f2 f3 rG w2e r1 r2 r3 r4 r5 r6 r7 n1 n2 n3 X1 Au Aw Az BA;go_wp2;go_roundw;case rel=>exact⟨j+1,sx++[((⟨al[k].1,j,c.length-1,c[j],c[j+1]⟩:Sg),(⟨Av',al[k].1.via.length,cv'⟩:SV))],I,BH,Hsy.1,aAE.1,Hpy.1,Hby.1⟩
 exact BJ
def iy{α:Type}(l:List α)(f:α->Bool)(g:α->α->Bool):Bool:=(List.range l.length).all λi=>match l[i]? with|none=>true|some t=>f t&&(l.take i).all λs=>g s t
theorem agG{α:Type}(l:List α)(f:α->Bool)(g:α->α->Bool)(i:Nat)(hi:i<l.length)(h:f l[i]=false):iy l f g=false:=by unfold iy;rw[aT];exact⟨i,FC.2 hi,by simp[DK hi,h]⟩
theorem agH{α:Type}(l:List α)(f:α->Bool)(g:α->α->Bool)(i k:Nat)(hk:k<i)(hi:i<l.length)(h:g (l[k]'(by omega)) l[i]=false):iy l f g=false:=by
 unfold iy;rw[aT];refine⟨i,FC.2 hi,?_⟩;have:(l.take i).all (λs=>g s l[i])=false:=by rw[aT];refine⟨l[k]'(by omega),?_,by simp[h]⟩;rw[Dy];exact⟨k,xW,Ak⟩
 simp[DK hi,this]
theorem agI{α:Type}(l:List α)(f:α->Bool)(g:α->α->Bool)(h1:∀i(hi:i<l.length),f l[i]=true)(h2:∀i k(hk:k<i)(hi:i<l.length),g (l[k]'(by omega)) l[i]=true):iy l f g=true:=by unfold iy;rw[KO];intro i hi;have hi:=FC.1 hi;rw[DK hi];simp only[EC];refine⟨h1 i hi,KO.2 λs c=>?_⟩;obtain⟨k,hk,rfl⟩:=Dy.1 c;rw[JF]at hk;have:=h2 i k I hi;simpa using this
def OE(p:Pl)(s t:Sg):Bool:=if s.arc.id=t.arc.id then UZ s t else OD p s t
def Nr(p:Pl):Bool:=iy (Vk p) (SA p)<|OE p
theorem ao9(p:Pl)(o:(p.AP.flatMap (·.via)).length<=1048576)(s:Sg)(c:s∈Vk p):s.i<=2097152/\1<=s.n/\s.n<=2097152:=by unfold Vk at c;obtain⟨a,j,c⟩:=Fj.1 c;unfold LV at c;obtain⟨k,hk,rfl⟩:=EP.1 c;have hk:=FC.1 hk;rw[En]at hk⊢;obtain⟨i,hi,rfl⟩:=Dy.1 j;have:=aau p.AP (·.via) i hi;simp only[];omega
theorem Row.sg{w:World}{A:Option Addr}{l:List<|Sg×SV}(h:Row w A<|l.flatMap dV){k:Nat}(hk:k<l.length):∃b o,A=some ⟨b,o,none⟩/\b<w.heap.size/\w.cell? ⟨b,o+k*12,none⟩=some (.int .i64 l[k].1.arc.id)/\w.cell? ⟨b,o+k*12+1,none⟩=some (.int .i64 l[k].1.arc.fr)/\w.cell? ⟨b,o+k*12+2,none⟩=some (.int .i64 l[k].1.arc.dst)/\w.cell? ⟨b,o+k*12+3,none⟩=some (.slice l[k].2.a l[k].2.n l[k].2.c)/\w.cell? ⟨b,o+k*12+4,none⟩=some (.int .i64 l[k].1.arc.left)/\w.cell? ⟨b,o+k*12+5,none⟩=some (.int .i64 l[k].1.arc.right)/\w.cell? ⟨b,o+k*12+6,none⟩=some (.int .i64 l[k].1.i)/\w.cell? ⟨b,o+k*12+7,none⟩=some (.int .i64 l[k].1.n)/\w.cell? ⟨b,o+k*12+8,none⟩=some (.int .i64 l[k].1.a.x)/\w.cell? ⟨b,o+k*12+9,none⟩=some (.int .i64 l[k].1.a.y)/\w.cell? ⟨b,o+k*12+10,none⟩=some (.int .i64 l[k].1.b.x)/\w.cell? ⟨b,o+k*12+11,none⟩=some (.int .i64 l[k].1.b.y):=by obtain⟨b,o,s,hb,j⟩:=h.at_ (n:=12) (λ_=>rfl) hk I;exact⟨b,o,s,hb,j 0 _ rfl,j 1 _ rfl,j 2 _ rfl,j 3 _ rfl,j 4 _ rfl,j 5 _ rfl,j 6 _ rfl,j 7 _ rfl,j 8 _ rfl,j 9 _ rfl,j 10 _ rfl,j 11 _ rfl⟩
theorem aoA(v:Value)(p:Pl)(w:World)(h:Cj w v p)(hl1:p.AP.length<=4096)(hl2:(p.AP.flatMap (·.via)).length<=1048576):Calls prog 143 #[v] w λe w'=>e=.returned (.bool<|Nr p)/\AU w w':=by
 have HP:=V h;obtain⟨vn,va,vf,al,rfl,-⟩:=h;have hok:=ao9 p hl2;have jA:=V hok;clear hok;obtain⟨q,hq⟩:=BM<|Nr p;rw[hq];have Hq:=V hq;clear hq;obtain⟨WQ,HL2,Hbd⟩:=CB hl1 hl2 (show(Vk p).length<=1052672 by unfold Vk;rw[agB];omega);clear hl1 hl2;go_enter func143,ntmps143;go_wp2_with fail;refine(ao7 _ p _ (HP.1.mono<|bA (bR w) _) WQ.1 HL2.1).mono ?_;rintro e w1⟨sl,v1,hsl,rfl,hb1,hown⟩;have Bw:AU w w1:=by exact ER
 have X2:AO _ w.heap.size 26 #[vn,va,vf]:=AO.keep (by repeat(first|exact AO.made Ak _ _|refine AO.alloc ?_ _)) hb1;clear hb1;have hsl2:=Own.sl hown;obtain⟨A,c,rfl,hn1,hn2,hR⟩:=hsl2;unfold maxLen at hn2;have HR:=V hR;have Vl:=V hsl;have hlen:sl.length<=1052672:=by have:=congrArg List.length hsl;rw[D6]at this;have:=Hbd.1;omega
 have CW:=V X2;have HB:=V Bw;clear X2 Bw hown hR hsl;have hin:∀k(hk:k<sl.length),sl[k].1.i<=2097152/\1<=sl[k].1.n/\sl[k].1.n<=2097152:=λk hk=>jA.1 _ (by rw[<-Vl.1];exact H6<|BG hk);have K:=V hin;clear hin;have hF:∀i(hi:i<sl.length),SA p sl[i].1=false->q=false:=λi hi h=>by rw[<-Hq.1,Nr,<-Vl.1];exact agG _ _ _ i qj<|by simpa using h
 have hG:∀i k(hk:k<i)(hi:i<sl.length),OE p (sl[k]'(by omega)).1 sl[i].1=false->q=false:=λi k hk hi h=>by rw[<-Hq.1,Nr,<-Vl.1];exact agH _ _ _ i k hk qj<|by simpa using h
 have F:(∀i(hi:i<sl.length),SA p sl[i].1=true)->(∀i k(hk:k<i)(hi:i<sl.length),OE p (sl[k]'(by omega)).1 sl[i].1=true)->q=true:=λh1 h2=>by
  rw[<-Hq.1,Nr,<-Vl.1];refine agI _ _ _ (λi hi=>?_) λi k hk hi=>?_;.have:=h1 i qj;simpa using this
  have:=h2 i k hk qj;simpa using this
 obtain⟨HF,HG,HY⟩:=CB hF hG F;clear hF hG F;go_wp2_with fail;go_loopw[4](λu wr=>∃i:Nat,i<=sl.length/\u=.int .i64 i/\AU w1 wr/\(∀j(U:j<sl.length),j<i->SA p sl[j].1=true)/\∀j k(hk:k<j)(U:j<sl.length),j<i->OE p (sl[k]'(by omega)).1 sl[j].1=true)λu _=>sl.length-(intOf u).toNat;case atStart=>exact⟨0,C9 _,rfl,bR w1,λ_ _ h=>I,λ_ _ _ _ h=>I⟩
 obtain⟨i,hi,rfl,hb,aAG,Xo⟩:=hrel;obtain⟨Hb,rD,rE⟩:=CB hb aAG Xo;have X2:=CW.1.keep hb;clear hb aAG Xo;obtain⟨BX,Bf,Bh,CS,-⟩:=X2.BF;by_cases hlt:i<sl.length;case neg=>have hf:=V<|HY.1 (λj U=>rD.1 j U I)<|λj k hk U=>rE.1 j k hk U I;go_wp2;go_ret;exact⟨Cm hf.1.symm,J HB.1 Hb.1⟩
 obtain⟨b,o,rfl,hlb,c0,c1,c2,c3,c4,c5,c6,c7,c8,c9,c10,c11⟩:=(HR.1.mono Hb.1).sg hlt;have q1:0<=(i:Int):=I;have q2:(i:Int)<sl.length:=I;have C:∀W,AU w W->Calls prog 197 #[.agg #[vn,va,vf],UG sl[i].1<|.slice sl[i].2.a sl[i].2.n sl[i].2.c] W _:=λW hW=>ao0 _ p sl[i].1 sl[i].2.a sl[i].2.n sl[i].2.c W (HP.1.mono hW) (K.1 i hlt).1 (K.1 i hlt).2.2;unfold UG at C;have HA:=V C;clear C;go_upto_region 5 with fail;refine CZ wr (.run 5 0 0<|.call 5 63<|.take 6 127<|.done) λCG QR Ae Aj hS=>?_;iterate 5 refine Ah ?_
 refine FM (HA.1 _<|J (J HB.1 Hb.1) hS) ?_;clear hS;intro Bv Bj hS;refine Ah ?_;refine CX ?_;clear hS Aj Ae;intro hB;have Bi:AU w1 Bv:=J Hb.1 hB;cases s:SA p sl[i].1;case false=>have hf:=V<|HF.1 i hlt s;clear s;go_wp2;go_ret;exact⟨Cm hf.1.symm,J HB.1 Bi⟩
 have Ha:=V s;have HBi:=V Bi;clear s Bi hB c0 c1 c2 c3 c4 c5 c6 c7 c8 c9 c10 c11 hlb X2 BX Bf Bh CS HA;simp only[aDo];go_wp2_with fail;obtain⟨wo,rfl⟩:=BR wr;go_loopw[5](λu wr=>∃k:Nat,k<=i/\u=.int .i64 k/\AU w1 wr/\∀j(U:j<sl.length),j<k->OE p sl[j].1 sl[i].1=true)λu _=>i-(intOf u).toNat;case atStart=>exact⟨0,C9 _,rfl,HBi.1,λ_ _ h=>I⟩
 obtain⟨k,hk,rfl,hb,hno⟩:=hrel;have z:=V hb;have Hn3:=V hno;have X2:=CW.1.keep hb;clear hb hno;try clear BX Bf Bh CS
 obtain⟨BX,Bf,Bh,CS,-⟩:=X2.BF;by_cases hki:k<i;case neg=>
  have iU:=V<|all_succ (p:=λx=>SA p x.1=true) rD.1 hlt Ha.1;have iV:FK<|∀j m(hm:m<j)(U:j<sl.length),j<i+1->OE p (sl[m]'(by omega)).1 sl[j].1=true:=V λj m hm U hji=>by
   by_cases e:j<i;.exact rE.1 j m hm U e
   have:j=i:=I;subst this;exact Hn3.1 m I I
  go_wp2;go_roundw;case rel=>exact⟨i+1,I,BH,z.1,iU.1,iV.out⟩
  exact BJ
 have hkl:k<sl.length:=I;obtain⟨b',o',F6,hlb,c0,c1,c2,c3,c4,c5,c6,c7,c8,c9,c10,c11⟩:=(HR.1.mono z.1).sg hlt;simp only[JU,Addr.mk.injEq,and_true]at F6;obtain⟨rfl,rfl⟩:=F6;obtain⟨b',o',F6,-,d0,d1,d2,d3,d4,d5,d6,d7,d8,d9,d10,d11⟩:=(HR.1.mono z.1).sg hkl;simp only[JU,Addr.mk.injEq,and_true]at F6;obtain⟨rfl,rfl⟩:=F6;have r1:0<=(k:Int):=I;have r2:(k:Int)<sl.length:=I;have C:∀W,Calls prog 198 #[UG sl[k].1<|.slice sl[k].2.a sl[k].2.n sl[k].2.c,UG sl[i].1<|.slice sl[i].2.a sl[i].2.n sl[i].2.c] W _:=λW=>apart_spec sl[k].1 sl[i].1 sl[k].2.a sl[i].2.a sl[k].2.n sl[i].2.n sl[k].2.c sl[i].2.c W (K.1 k hkl).1 (K.1 i hlt).2.2 (K.1 i hlt).2.1;have TJ:∀W,AU w W->Calls prog 199 #[.agg #[vn,va,vf],UG sl[k].1<|.slice sl[k].2.a sl[k].2.n sl[k].2.c,UG sl[i].1<|.slice sl[i].2.a sl[i].2.n sl[i].2.c] W _:=λW hW=>anz _ p sl[k].1 sl[i].1 sl[k].2.a sl[i].2.a sl[k].2.n sl[i].2.n sl[k].2.c sl[i].2.c W<|HP.1.mono hW;unfold UG at C TJ;have HJ:=V TJ;clear TJ;cases hid:sl[k].1.arc.id==sl[i].1.arc.id;case true=>
  have M:OE p sl[k].1 sl[i].1=UZ sl[k].1 sl[i].1:=by unfold OE;rw[AZ<|eq_of_beq hid]
  have aoB:(sl[k].1.arc.id !=sl[i].1.arc.id)=false:=by simp[bne,hid]
  have T:=V M;clear M;cases s:UZ sl[k].1 sl[i].1;case false=>
   rw[s]at C;have HA:=V C;have hf:=V<|HG.1 i k hki hlt<|T.1.trans s;clear C s;go_upto_region 10 with fail;refine CZ wr (.run 22 0 0<|.call 22 8388607<|.run 30 23 8388607<|.done) λCG QR Ae Aj hS=>?_;iterate 14 refine Ah ?_
   iterate 8 refine DT ?_
   refine FM (HA.1 _) ?_;clear hS;intro Bv Bj hS;refine DT ?_;iterate 2 refine Ah ?_
   iterate 26 refine Iu ?_
   refine Ah ?_;refine CX ?_;clear hS Aj Ae;intro hB;have B3:AU w1 Bv:=J z.1 hB;go_wp2;go_ret;exact⟨Cm hf.1.symm,J HB.1 B3⟩
  rw[s]at C;have HA:=V C;have hg:=V<|T.1.trans s;clear C s;go_upto_region 10 with fail;refine CZ wr (.run 22 0 0<|.call 22 8388607<|.run 30 23 8388607<|.done) λCG QR Ae Aj hS=>?_;iterate 14 refine Ah ?_
  iterate 8 refine DT ?_
  refine FM (HA.1 _) ?_;clear hS;intro Bv Bj hS;refine DT ?_;iterate 2 refine Ah ?_
  iterate 14 refine DT ?_
  iterate 11 refine Iu ?_
  refine DT ?_;refine Ah ?_;refine CX ?_;clear hS Aj Ae;intro hB;have B3:AU w1 Bv:=J z.1 hB;go_wp2;go_roundw;case rel=>exact⟨k+1,I,BH,B3,all_succ (p:=λx=>OE p x.1 sl[i].1=true) Hn3.1 hkl hg.1⟩
  exact BJ
 have M:OE p sl[k].1 sl[i].1=OD p sl[k].1 sl[i].1:=by unfold OE;rw[AX<|ne_of_beq_false hid]
 have aoB:(sl[k].1.arc.id !=sl[i].1.arc.id)=true:=by simp[bne,hid]
 have T:=V M;clear M C;go_upto_region 10 with fail;refine CZ wr (.run 49 0 0<|.call 49 1125899906842623<|.run 3 50 1125899906842623<|.done) λCG QR Ae Aj hS=>?_;iterate 14 refine Ah ?_
 iterate 10 refine Iu ?_
 iterate 2 refine Ah ?_
 iterate 23 refine DT ?_
 refine FM (HJ.1 _<|J (J HB.1 z.1) hS) ?_;clear hS;intro Bv Bj hS;iterate 2 refine DT ?_
 refine Ah ?_;refine CX ?_;clear hS Aj Ae;intro hB;have B3:AU w1 Bv:=J z.1 hB;cases s:OD p sl[k].1 sl[i].1;case false=>have hf:=V<|HG.1 i k hki hlt<|T.1.trans s;clear s;go_wp2;go_ret;exact⟨Cm hf.1.symm,J HB.1 B3⟩
 have hg:=V<|T.1.trans s;clear s;go_wp2;go_roundw;case rel=>exact⟨k+1,I,BH,B3,all_succ (p:=λx=>OE p x.1 sl[i].1=true) Hn3.1 hkl hg.1⟩
 exact BJ
def SB(p:Pl):Bool:=QS (p.nodes.map (·.id))&&QS (p.AP.map (·.id))&&QS p.faces
def Vm(p:Pl):Bool:=p.AP.all λa=>FX p.faces a.left&&FX p.faces a.right
def LM(p:Pl):Int:=if Jr p=true then 3 else if SB p=false then 10 else if Ou p=false then 2 else if Vh (p.nodes.map (·.pt))=true then 8 else if p.AP.all (KD p)=false then 7 else if Vm p=false then 12 else if Nr p=false then 11 else 0
theorem aD0{α β:Type}(l:List α)(f:α->List β)(n:Nat)(h:∀a∈l,(f a).length<=n):(l.flatMap f).length<=l.length*n:=by induction l with|nil=>simp|cons a l c=>simp only[LC,EK,Gy,Nat.succ_mul];have:=h a Ak;have:=c λb hb=>h b (by simp[hb]);omega
theorem aAI{p:Pl}(h:Jr p=false):(∀a∈p.AP,a.via.length<=64)/\p.nodes.length<=256/\p.AP.length<=256/\p.faces.length<=64/\(p.AP.flatMap (·.via)).length<=16384:=by
 unfold Jr at h;simp only[Rl,IL,Xg,DI]at h;obtain⟨h1,⟨h2,h3⟩,o⟩:=h;have c:∀a∈p.AP,a.via.length<=64:=λa j=>by have:=h1 a j;omega
 have s:=aD0 p.AP (·.via) 64 c;refine⟨c,I,I,I,I⟩
theorem agJ(v:Value)(p:Pl)(w:World)(h:Cj w v p):Calls prog 83 #[v] w λe w'=>e=.returned (.int .i64<|LM p)/\AU w w':=by
 have HP:=V h;obtain⟨vn,_,vf,al,rfl,hpa,-,⟨⟨Aa,ca,rfl,ha1,ha2,G6⟩,hV⟩,hF⟩:=h;unfold maxLen at ha2;have HF:=V hF;clear hF;have HV:=V hV;clear hV;have IU:=V G6;clear G6;have jB:=V hpa;clear hpa;obtain⟨q,hq⟩:=BM<|LM p;rw[hq];unfold LM at hq;have s:=V hq;clear hq;go_enter func83,ntmps83;go_wp2_with fail;refine(aoU _ p _<|HP.1.mono<|bA (bR w) _).mono ?_;rintro e w1⟨rfl,hb1⟩;have c:AU w w1:=by exact ER
 have z:AO _ w.heap.size 26 #[vn,.slice Aa al.length ca,vf]:=AO.keep (by repeat(first|exact AO.made Ak _ _|refine AO.alloc ?_ _)) hb1;clear hb1;obtain⟨M,T,U,CS,-⟩:=z.BF;cases hl:Jr p;case true=>have C:=V (show 3=q by rw[<-s.1,AZ hl]);clear hl;go_wp2;go_ret;exact⟨DZ C.1,c⟩
 have Hl:=V<|aAI hl;rw[hl]at s;replace s:=V s.1;clear hl;have hsh:Short p:=λa ha=>by have:=Hl.1.1 a ha;omega
 have DN:=V hsh;clear hsh;go_wp2_with fail;refine(ag8 _ p _ (HP.1.mono c) ku).mono ?_;rintro e w2⟨v2,rfl,hb2,ho2⟩;replace c:=J c hb2;replace z:=z.keep hb2;clear hb2;try clear M T U CS
 obtain⟨M,T,U,CS,-⟩:=z.BF;have hi2:=Own.sl ho2;go_wp2_with fail;refine(aay _ _ _ hi2).mono ?_;rintro e w3⟨rfl,hb3⟩;replace c:=J c hb3;replace z:=z.keep hb3;clear hb3;try clear M T U CS
 try clear M T U CS
 obtain⟨M,T,U,CS,-⟩:=z.BF;cases h1:QS (p.nodes.map (·.id));case false=>have C:=V (show 10=q by rw[<-s.1];simp[SB,h1]);clear h1;go_wp2;go_ret;exact⟨DZ C.1,c⟩
 have H1:=V h1;clear h1 hi2 ho2;go_wp2_with fail;refine(ag9 _ p _ (HP.1.mono c) ku).mono ?_;rintro e w4⟨v4,rfl,hb4,KY⟩;replace c:=J c hb4;replace z:=z.keep hb4;clear hb4;try clear M T U CS
 obtain⟨M,T,U,CS,-⟩:=z.BF;have hi4:=Own.sl KY;go_wp2_with fail;refine(aay _ _ _ hi4).mono ?_;rintro e w5⟨rfl,hb5⟩;replace c:=J c hb5;replace z:=z.keep hb5;clear hb5;try clear M T U CS
 try clear M T U CS
 obtain⟨M,T,U,CS,-⟩:=z.BF;cases h1:QS (p.AP.map (·.id));case false=>have C:=V (show 10=q by rw[<-s.1];simp[SB,h1]);clear h1;go_wp2;go_ret;exact⟨DZ C.1,c⟩
 have H2:=V h1;clear h1 hi4 KY;go_wp2_with fail;refine(aay _ _ _<|HF.1.mono c).mono ?_;rintro e w6⟨rfl,hb6⟩;replace c:=J c hb6;replace z:=z.keep hb6;clear hb6;try clear M T U CS
 try clear M T U CS
 obtain⟨M,T,U,CS,-⟩:=z.BF;cases h1:QS p.faces;case false=>have C:=V (show 10=q by rw[<-s.1];simp[SB,h1]);clear h1;go_wp2;go_ret;exact⟨DZ C.1,c⟩
 have ho:=s.1;rw[show SB p=true by simp[SB,H1.1,H2.1,h1]]at ho;replace s:=V ho;clear h1 ho H1 H2;go_wp2_with fail;refine(aol _ p _ (HP.1.mono c) ku ku ku ku).mono ?_;rintro e w7⟨rfl,hb7⟩;replace c:=J c hb7;replace z:=z.keep hb7;clear hb7;try clear M T U CS
 try clear M T U CS
 obtain⟨M,T,U,CS,-⟩:=z.BF;cases h1:Ou p;case false=>have C:=V (show 2=q by rw[<-s.1];simp[h1]);clear h1;go_wp2;go_ret;exact⟨DZ C.1,c⟩
 rw[h1]at s;replace s:=V s.1;clear h1;go_wp2_with fail;refine(aok _ p _<|HP.1.mono c).mono ?_;rintro e w8⟨rfl,hb8⟩;replace c:=J c hb8;replace z:=z.keep hb8;clear hb8;try clear M T U CS
 try clear M T U CS
 obtain⟨M,T,U,CS,-⟩:=z.BF;cases h1:Vh (p.nodes.map (·.pt));case true=>have C:=V (show 8=q by rw[<-s.1];simp[h1]);clear h1;go_wp2;go_ret;exact⟨DZ C.1,c⟩
 rw[h1]at s;replace s:=V s.1;clear h1;have CW:=V z;have HB:=V c;clear z M T U CS c;simp only[aDo];go_wp2_with fail;go_loopw[3](λi wr=>∃k:Nat,k<=al.length/\i=.int .i64 k/\AU w8 wr/\∀j(hj:j<al.length),j<k->KD p al[j].1=true)λi _=>al.length-(intOf i).toNat;case atStart=>exact⟨0,C9 _,rfl,bR w8,λj _ h=>I⟩
 obtain⟨k,hk,rfl,hb,hno⟩:=hrel;have Hb:=V hb;have Hno:=V hno;have X1:=CW.1.keep hb;clear hb hno;obtain⟨Au,Aw,Az,BA,-⟩:=X1.BF;by_cases hlt:k<al.length;case neg=>
  have hg:=V (show p.AP.all (KD p)=true by rw[jB.1,ZE];exact rF al (λa=>KD p a.1)<|λj hj=>Hno.1 j hj I);have ho:=s.1;rw[hg.1]at ho;replace s:=V ho;clear ho;go_wp2_with fail;obtain⟨wo,rfl⟩:=BR wr;have DU:=V X1;have FH:=V<|J HB.1 Hb.1;clear X1 Au Aw Az BA;go_loopw[6](λi wr=>∃k:Nat,k<=al.length/\i=.int .i64 k/\AU wo wr/\∀j(hj:j<al.length),j<k->(FX p.faces al[j].1.left&&FX p.faces al[j].1.right)=true)λi _=>al.length-(intOf i).toNat;case atStart=>exact⟨0,C9 _,rfl,bR wo,λj _ h=>I⟩
  obtain⟨k,hk,rfl,hb,hno⟩:=hrel;have Hb2:=V hb;have UF:=V hno;have X1:=DU.1.keep hb;clear hb hno;try clear Au Aw Az BA
  obtain⟨Au,Aw,Az,BA,-⟩:=X1.BF;by_cases hlt:k<al.length;case neg=>
   have hg:=V (show Vm p=true by unfold Vm;rw[jB.1,ZE];exact rF al (λa=>FX p.faces a.1.left&&FX p.faces a.1.right)<|λj hj=>UF.1 j hj I);have ho:=s.1;rw[hg.1]at ho;replace s:=V ho;clear ho;go_wp2_with fail;refine(aoA _ p _ (HP.1.mono<|J FH.1 Hb2.1) ku ku).mono ?_;rintro e w9⟨rfl,Pq⟩;have B9:=J (J FH.1 Hb2.1) Pq;cases h1:Nr p;case false=>have C:=V (show 11=q by rw[<-s.1];simp[h1]);clear h1;go_wp2;go_ret;exact⟨DZ C.1,B9⟩
   have C:=V (show 0=q by rw[<-s.1];simp[h1]);clear h1;go_wp2;go_ret;exact⟨DZ C.1,B9⟩
  obtain⟨b,o,rfl,hlb,c0,c1,c2,c3,c4,c5⟩:=(IU.1.mono<|J FH.1 Hb2.1).ar hlt;have q1:0<=(k:Int):=I;have q2:(k:Int)<al.length:=I;have TF:∀(n:Int)W,AU w W->Calls prog 142 #[.agg #[vn,.slice (some ⟨b,o,none⟩) al.length ca,vf],.int .i64 n] W λe w'=>e=.returned (.bool<|FX p.faces n)/\AU W w':=λn W hW=>aoT _ p n W<|HP.1.mono hW;cases h1:FX p.faces al[k].1.left;case false=>
   have TL:=TF al[k].1.left;rw[h1]at TL;have HT:=V TL;have hg:=V (show Vm p=false by unfold Vm;rw[jB.1,ZE];exact dW al (λa=>FX p.faces a.1.left&&FX p.faces a.1.right) k hlt<|by simp[h1]);have C:=V (show 12=q by rw[<-s.1];simp[hg.1]);clear h1 TF TL;go_upto_region 18 with fail;refine CZ wr (.run 7 0 0<|.call 7 255<|.run 12 8 255<|.done) λCG QR Ae Aj hS=>?_;iterate 7 refine Ah ?_
   refine FM (HT.1 _<|J (J FH.1 Hb2.1) hS) ?_;clear hS;intro Bv Bj hS;iterate 2 refine Ah ?_
   iterate 9 refine Iu ?_
   refine Ah ?_;refine CX ?_;clear hS Aj Ae;intro hB;go_wp2;go_ret;exact⟨DZ C.1,J (J FH.1 Hb2.1) hB⟩
  have TL:=TF al[k].1.left;rw[h1]at TL;obtain⟨HT,HU,H1⟩:=CB TL (TF al[k].1.right) h1;clear h1 TF TL;go_upto_region 18 with fail;refine CZ wr (.run 7 0 0<|.call 7 255<|.run 9 8 255<|.call 17 262143<|.take 18 524287<|.take 19 1048575<|.done) λCG QR Ae Aj hS=>?_;iterate 7 refine Ah ?_
  refine FM (HT.1 _<|J (J FH.1 Hb2.1) hS) ?_;clear hS;intro Bv Bj hS;iterate 2 refine Ah ?_
  iterate 7 refine DT ?_
  refine FM (HU.1 _<|J (J FH.1 Hb2.1) hS) ?_;clear hS;intro wr2 F5 hS;refine DT ?_;refine Ah ?_;refine CX ?_;clear hS Aj Ae;intro hB;have B3:=J Hb2.1 hB;cases h2:FX p.faces al[k].1.right;case false=>have hg:=V (show Vm p=false by unfold Vm;rw[jB.1,ZE];exact dW al (λa=>FX p.faces a.1.left&&FX p.faces a.1.right) k hlt<|by simp[h2]);have C:=V (show 12=q by rw[<-s.1];simp[hg.1]);clear h2;go_wp2;go_ret;exact⟨DZ C.1,J FH.1 B3⟩
  have hg:=V (show(FX p.faces al[k].1.left&&FX p.faces al[k].1.right)=true by rw[H1.1,h2];rfl);clear h2;go_wp2;go_roundw;case rel=>exact⟨k+1,I,BH,B3,all_succ (p:=λx=>(FX p.faces x.1.left&&FX p.faces x.1.right)=true) UF.1 hlt hg.1⟩
  exact BJ
 obtain⟨b,o,rfl,hlb,c0,c1,c2,c3,c4,c5⟩:=(IU.1.mono<|J HB.1 Hb.1).ar hlt;have hvk:=HV.1 k hlt;obtain⟨Av,cv,hv,-⟩:=hvk;have hvk:=HV.1 k hlt;rw[hv]at c3 hvk;generalize hvl:al[k].1.via.length=vl at c3;have aFu:=V hvl;have UD:=V hvk;have q1:0<=(k:Int):=I;have q2:(k:Int)<al.length:=I;clear hvk hv hvl;have TL:∀W,AU w W->Calls prog 141 #[.agg #[vn,.slice (some ⟨b,o,none⟩) al.length ca,vf],.agg #[.int .i64 al[k].1.id,.int .i64 al[k].1.fr,.int .i64 al[k].1.dst,.slice Av vl cv,.int .i64 al[k].1.left,.int .i64 al[k].1.right]] W (aaz W (AV p al[k].1)<|KD p al[k].1):=λW hW=>by have:=ab1 _ _ p al[k].1 _ (HP.1.mono hW) (UD.1.mono hW)<|DN.1 _ (by rw[jB.1];exact H6<|BG hlt);rw[aFu.1]at this;exact this
 have HT:=V TL;clear TL;go_upto_region 12 with fail;refine CZ wr (.run 6 0 0<|.call 6 127<|.run 5 7 127<|.done) λCG QR Ae Aj hS=>?_;iterate 6 refine Ah ?_
 refine BP ?_;clear hS;intro K hK AQ;go_simp;refine(HT.1 _<|J (J HB.1 Hb.1) AQ.out).mono ?_;rintro e Bv⟨v1,rfl,Bj,ho1⟩;have hS:Since wr Bv:=J (w:=wr) AQ.out Bj;clear AQ;refine hK.out _ _ hS λ_=>?_;clear hK K;try simp only[pu]
 iterate 5 refine Ah ?_
 refine CX ?_;clear hS Aj Ae;intro hB;have B3:=J Hb.1 hB;cases h2:KD p al[k].1;case false=>have hg:=V (show p.AP.all (KD p)=false by rw[jB.1,ZE];exact dW al (λa=>KD p a.1) k hlt h2);have C:=V (show 7=q by rw[<-s.1];simp[hg.1]);clear h2;go_wp2;go_ret;exact⟨DZ C.1,J HB.1 B3⟩
 have hg:=V h2;clear h2;go_wp2;go_roundw;case rel=>exact⟨k+1,I,BH,B3,all_succ (p:=λx=>KD p x.1=true) Hno.1 hlt hg.1⟩
 exact BJ
def hasB(l:List Int)(a:Ar):Bool:=l.any (λy=>y==a.fr)&&l.any λy=>y==a.dst
def WR(p:Pl)(l:List Int):Int:=if Vh (p.nodes.map (·.pt))=true then 8 else if p.AP.all (hasB l)=false then 7 else if Vm p=false then 12 else 0
theorem aoC(v u:Value)(p:Pl)(l:List Int)(w:World)(h:Cj w v p)(hu:Ints w u l):Calls prog 180 #[v,u] w λe w'=>e=.returned (.int .i64<|WR p l)/\AU w w':=by
 obtain⟨_,_,vf,al,rfl,hpa,⟨An,cn,rfl,hn1,hn2,hR⟩,⟨⟨Aa,ca,rfl,ha1,ha2,G6⟩,hV⟩,hF⟩:=h;unfold maxLen at hn2 ha2;have HF:=V hF;clear hF;have HU:=V hu;clear hu;have HV:=V hV;clear hV;have HR:=V hR;clear hR;have IU:=V G6;clear G6;have hc:WR p l=if Vh (p.nodes.map (·.pt))=true then 8 else if al.all (λa=>hasB l a.1)=false then 7 else if al.all (λa=>FX p.faces a.1.left&&FX p.faces a.1.right)=false then 12 else 0:=by unfold WR Vm;rw[hpa,ZE,ZE];rfl
 obtain⟨q,hq⟩:=BM<|WR p l;rw[hq];rw[hc]at hq;have Hq:=V hq;clear hq hc hpa;generalize p.nodes=c at*;generalize p.faces=C at*;go_enter func180,ntmps180;go_wp2_with fail;obtain⟨W0,hW0⟩:=BR<|w.alloc<|.cells #[.slice An c.length cn,.slice Aa al.length ca,vf] 26;have M:AO W0 w.heap.size 26 #[.slice An c.length cn,.slice Aa al.length ca,vf]:=by rw[hW0];exact AO.made rfl _ _
 have GI:AU w W0:=by rw[hW0];exact bA (bR w) _
 rw[<-hW0];have HX0:=V M;have HB0:=V GI;clear hW0 M GI;go_loopw[18](λs wr=>∃i:Nat,i<=c.length/\s=.int .i64 i/\AU W0 wr/\∀j k(hk:k<j)(hj:j<c.length),j<i->¬c[j].pt=c[k].pt)λs _=>c.length-(intOf s).toNat;case atStart=>exact⟨0,C9 _,rfl,bR W0,λ_ _ _ _ h=>I⟩
 obtain⟨i,hi,rfl,hb,hno⟩:=hrel;have Hb:=V hb;have T:=V hno;have M:=HX0.1.keep hb;clear hb hno;obtain⟨Au,Aw,Az,BA,-⟩:=M.BF;by_cases hlt:i<c.length;case pos=>
  obtain⟨b,o,rfl,hlb,c0,c1,c2⟩:=(HR.1.mono<|J HB0.1 Hb.1).nd hlt;go_wp2_with fail;obtain⟨W1,hW1⟩:=BR<|wr.alloc<|.cells #[.int .i64 c[i].id,.int .i64 c[i].pt.x,.int .i64 c[i].pt.y] 56;have B1:AU W0 W1:=by rw[hW1];exact bA Hb.1 _
  have X6:AO W1 wr.heap.size 56 #[.int .i64 c[i].id,.int .i64 c[i].pt.x,.int .i64 c[i].pt.y]:=by rw[hW1];exact AO.made rfl _ _
  rw[<-hW1];have Ic:=V X6;have HB1:=V B1;clear c0 c1 c2 hlb hW1 M Au Aw Az BA X6 B1;obtain⟨wo,rfl⟩:=BR wr;go_loopw[28](λs wx=>∃k:Nat,k<=i/\s=.int .i64 k/\AU W1 wx/\∀m(hm:m<c.length),m<k->¬c[i].pt=c[m].pt)λs _=>i-(intOf s).toNat;case atStart=>exact⟨0,C9 _,rfl,bR W1,λ_ _ h=>I⟩
  obtain⟨k,hk,rfl,hb,Xo⟩:=hrel;have z:=V hb;have UF:=V Xo;have X6:=Ic.1.keep hb;clear hb Xo;by_cases hlk:k<i;case neg=>
   have HN:=V (show∀j m(hm:m<j)(hj:j<c.length),j<i+1->¬c[j].pt=c[m].pt fromλj m hm hj hji=>by
    by_cases e:j<i;.exact T.1 j m hm hj e
    have:j=i:=I;subst this;exact UF.1 m I I);go_wp2;go_roundw;case rel=>exact⟨i+1,I,BH,J HB1.1 z.1,HN.1⟩
   exact BJ
  have hkl:k<c.length:=I;obtain⟨b',o',F6,hlb,c0,c1,c2⟩:=(HR.1.mono<|J HB0.1<|J HB1.1 z.1).nd hkl;simp only[JU,Addr.mk.injEq,and_true]at F6;obtain⟨rfl,rfl⟩:=F6;obtain⟨EW,EX,EY,Ov,-⟩:=X6.BF;have hE:=Vd c[i].pt c[k].pt;by_cases he:c[i].pt=c[k].pt;.have hd:decide (c[i].pt=c[k].pt)=true:=Ia he;have hf:=V (show 8=q by rw[<-Hq.1,AZ (aaw (c.map (·.pt)) i k hlk (by simpa using hlt)<|by simpa using he)]);clear he;go_wp2;go_ret;exact⟨DZ hf.1,J HB0.1<|J HB1.1<|bA z.1 _⟩
  have hd:decide (c[i].pt=c[k].pt)=false:=GX he;have He:=V he;clear he;go_wp2;go_roundw;case rel=>exact⟨k+1,I,BH,bA z.1 _,λm hm hmk=>if e:m<k then UF.1 m hm e else by have:m=k:=I;subst this;exact He.1⟩
  exact BJ
 have hd:=V (aax (c.map (·.pt)) λj m hm hj=>by have:=T.1 j m hm (by simpa using hj) (by rw[D6]at hj;omega);simpa using this);have ho:=Hq.1;rw[hd.1]at ho;simp only[O7,if_false]at ho;replace Hq:=V ho;clear ho hd;go_wp2_with fail;obtain⟨wo,rfl⟩:=BR wr;have DU:=V M;have FH:=V<|J HB0.1 Hb.1;clear M Au Aw Az BA T;go_loopw[42](λs wr=>∃k:Nat,k<=al.length/\s=.int .i64 k/\AU wo wr/\∀j(hj:j<al.length),j<k->hasB l al[j].1=true)λs _=>al.length-(intOf s).toNat;case atStart=>exact⟨0,C9 _,rfl,bR wo,λ_ _ h=>I⟩
 obtain⟨k,hk,rfl,hb,hno⟩:=hrel;have z:=V hb;have T:=V hno;have M:=DU.1.keep hb;clear hb hno;try clear Au Aw Az BA
 obtain⟨Au,Aw,Az,BA,-⟩:=M.BF;by_cases hlt:k<al.length;case pos=>
  obtain⟨b,o,rfl,hlb,c0,c1,c2,c3,c4,c5⟩:=(IU.1.mono<|J FH.1 z.1).ar hlt;obtain⟨Av,cv,hv,-⟩:=HV.1 k hlt;rw[hv]at c3;clear hv;go_wp2_with fail;refine(aCu _ l _ _<|HU.1.mono<|bA (J FH.1 z.1) _).mono ?_;rintro e w2⟨rfl,hb2⟩;have B2:=J (bA z.1 _) hb2;have EF:AO w2 wr.heap.size 31 _:=(AO.made rfl _ _).keep hb2;clear hb2 c0 c1 c2 c3 c4 c5 hlb;obtain⟨Ie,Ig,Ih,UK,Ua,lY,lZ,-⟩:=EF.J9;cases h1:l.any λy=>y==al[k].1.fr;case false=>have K:=V<|dW al (λa=>hasB l a.1) k hlt (by simp[hasB,h1]);have hf:=V (show 7=q by rw[<-Hq.1,AZ K.1]);clear h1;go_wp2;go_ret;exact⟨DZ hf.1,J FH.1 B2⟩
  have H1:=V h1;clear h1;go_wp2_with fail;refine(aCu _ l _ _<|HU.1.mono<|J FH.1 B2).mono ?_;rintro e w3⟨rfl,hb3⟩;have B3:=J B2 hb3;clear hb3 EF Ie Ig Ih UK Ua lY lZ;cases h1:l.any λy=>y==al[k].1.dst;case false=>have K:=V<|dW al (λa=>hasB l a.1) k hlt (by simp[hasB,h1]);have hf:=V (show 7=q by rw[<-Hq.1,AZ K.1]);clear h1;go_wp2;go_ret;exact⟨DZ hf.1,J FH.1 B3⟩
  have K:=V (show hasB l al[k].1=true by simp only[hasB,H1.1,h1];rfl);clear h1;go_wp2;go_roundw;case rel=>exact⟨k+1,I,BH,B3,all_succ (p:=λx=>hasB l x.1=true) T.1 hlt K.1⟩
  exact BJ
 have hd:=V<|rF al (λa=>hasB l a.1)<|λj hj=>T.1 j hj I;have ho:=Hq.1;rw[hd.1]at ho;simp only[Bool.true_eq_false,if_false]at ho;replace Hq:=V ho;clear ho hd;go_wp2_with fail;obtain⟨wq,rfl⟩:=BR wr;replace DU:=V M;replace FH:=V<|J FH.1 z.1;clear M Au Aw Az BA T z;go_loopw[62](λs wr=>∃k:Nat,k<=al.length/\s=.int .i64 k/\AU wq wr/\∀j(hj:j<al.length),j<k->(FX C al[j].1.left&&FX C al[j].1.right)=true)λs _=>al.length-(intOf s).toNat;case atStart=>exact⟨0,C9 _,rfl,bR wq,λ_ _ h=>I⟩
 obtain⟨k,hk,rfl,hb,hno⟩:=hrel;have z:=V hb;have T:=V hno;have M:=DU.1.keep hb;clear hb hno;try clear Au Aw Az BA
 obtain⟨Au,Aw,Az,BA,-⟩:=M.BF;by_cases hlt:k<al.length;case neg=>have hd:=V<|rF al (λa=>FX C a.1.left&&FX C a.1.right)<|λj hj=>T.1 j hj I;have hf:=V (show 0=q by rw[<-Hq.1,hd.1];rfl);go_wp2;go_ret;exact⟨DZ hf.1,J FH.1 z.1⟩
 obtain⟨b,o,rfl,hlb,c0,c1,c2,c3,c4,c5⟩:=(IU.1.mono<|J FH.1 z.1).ar hlt;obtain⟨Av,cv,hv,-⟩:=HV.1 k hlt;rw[hv]at c3;clear hv;go_wp2_with fail;obtain⟨W5,IW⟩:=BR<|wr.alloc<|.cells #[.int .i64 al[k].1.id,.int .i64 al[k].1.fr,.int .i64 al[k].1.dst,.slice Av al[k].1.via.length cv,.int .i64 al[k].1.left,.int .i64 al[k].1.right] 31;have YR:AU wr W5:=by rw[IW];exact bA (bR wr) _
 have Cb:=V<|J z.1 YR;have D5:=V<|M.keep YR;rw[<-IW];clear c0 c1 c2 c3 c4 c5 hlb IW YR M Au Aw Az BA;obtain⟨wp,rfl⟩:=BR wr;go_loopw[71](λs wx=>∃j:Int,(j=0\/j=1\/j=2)/\s=.int .i64 j/\AU W5 wx/\(1<=j->FX C al[k].1.left=true)/\(2<=j->FX C al[k].1.right=true))λs _=>2-(intOf s).toNat;case atStart=>exact⟨0,I,rfl,bR W5,λh=>I,λh=>I⟩
 obtain⟨j,hj,rfl,hb,hl,hr⟩:=hrel;obtain⟨U,Hl,Hr⟩:=CB hb hl hr;clear hb hl hr;rcases hj with rfl|rfl|rfl
 .have hI:∀w,(Instr.index 129 (.agg #[.int .i64 al[k].1.left,.int .i64 al[k].1.right])<|.int .i64 0).run prog w=.ok (.int .i64 al[k].1.left) w:=λ_=>by kernel_rfl
  cases hz:al[k].1.left !=0;case false=>
   have K:=V (show FX C al[k].1.left=true by
    have:al[k].1.left=0:=by simpa[bne_eq_false_iff_eq]using hz
    simp[FX,this]);go_wp2;go_roundw;case rel=>exact⟨1,I,rfl,U.1,λh=>by first|exact K.1|exact Hl.1 I,λh=>by first|omega|exact K.1⟩
   simp[intOf]
  have M:=D5.1.keep U.1;try clear Au Aw Az BA
  obtain⟨Au,Aw,Az,BA,-⟩:=M.BF;go_wp2_with fail;refine(aCu _ C _ _<|HF.1.mono<|J FH.1<|J Cb.1 U.1).mono ?_;rintro e w6⟨rfl,hb6⟩;have B6:=J U.1 hb6;clear hb6 M Au Aw Az BA;cases h1:C.any λy=>y==al[k].1.left;case false=>
   have hfc:=V (show FX C al[k].1.left=false by
    have:¬al[k].1.left=0:=by simpa using hz
    simp only[FX,h1];simpa using this);have K:=V<|dW al (λa=>FX C a.1.left&&FX C a.1.right) k hlt (by simp[hfc.1]);have hf:=V (show 12=q by rw[<-Hq.1,AZ K.1]);clear h1;go_wp2;go_ret;exact⟨DZ hf.1,J FH.1<|J Cb.1 B6⟩
  have K:=V (show FX C al[k].1.left=true by simp[FX,h1]);clear h1;go_wp2;go_roundw;case rel=>exact⟨1,I,rfl,B6,λh=>by first|exact K.1|exact Hl.1 I,λh=>by first|omega|exact K.1⟩
  simp[intOf]
 .have hI:∀w,(Instr.index 129 (.agg #[.int .i64 al[k].1.left,.int .i64 al[k].1.right])<|.int .i64 1).run prog w=.ok (.int .i64 al[k].1.right) w:=λ_=>by kernel_rfl
  cases hz:al[k].1.right !=0;case false=>
   have K:=V (show FX C al[k].1.right=true by
    have:al[k].1.right=0:=by simpa[bne_eq_false_iff_eq]using hz
    simp[FX,this]);go_wp2;go_roundw;case rel=>exact⟨2,I,rfl,U.1,λh=>by first|exact K.1|exact Hl.1 I,λh=>by first|omega|exact K.1⟩
   simp[intOf]
  have M:=D5.1.keep U.1;try clear Au Aw Az BA
  obtain⟨Au,Aw,Az,BA,-⟩:=M.BF;go_wp2_with fail;refine(aCu _ C _ _<|HF.1.mono<|J FH.1<|J Cb.1 U.1).mono ?_;rintro e w6⟨rfl,hb6⟩;have B6:=J U.1 hb6;clear hb6 M Au Aw Az BA;cases h1:C.any λy=>y==al[k].1.right;case false=>
   have hfc:=V (show FX C al[k].1.right=false by
    have:¬al[k].1.right=0:=by simpa using hz
    simp only[FX,h1];simpa using this);have K:=V<|dW al (λa=>FX C a.1.left&&FX C a.1.right) k hlt (by simp[hfc.1]);have hf:=V (show 12=q by rw[<-Hq.1,AZ K.1]);clear h1;go_wp2;go_ret;exact⟨DZ hf.1,J FH.1<|J Cb.1 B6⟩
  have K:=V (show FX C al[k].1.right=true by simp[FX,h1]);clear h1;go_wp2;go_roundw;case rel=>exact⟨2,I,rfl,B6,λh=>by first|exact K.1|exact Hl.1 I,λh=>by first|omega|exact K.1⟩
  simp[intOf]
 have K:=V (show(FX C al[k].1.left&&FX C al[k].1.right)=true by rw[Hl.1 I,Hr.1 I];rfl);go_wp2;go_roundw;case rel=>exact⟨k+1,I,BH,J Cb.1 U.1,all_succ (p:=λx=>(FX C x.1.left&&FX C x.1.right)=true) T.1 hlt K.1⟩
 exact BJ
