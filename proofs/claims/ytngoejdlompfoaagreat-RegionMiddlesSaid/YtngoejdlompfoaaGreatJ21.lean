import Derived.Test.YtngoejdlompfoaaGreatLawWc
import Derived.Test.YtngoejdlompfoaaGreatJ20
set_option linter.unusedSimpArgs false
set_option linter.unusedVariables false
set_option maxRecDepth 100000
set_option maxHeartbeats 8000000
namespace Go.Proofs.YtngoejdlompfoaaGreat
open Go.RowKit Tryz
theorem aeA{P:Program}{c:Func}{p q r s:Tmp}(h:c.results=#[.tmp p,.tmp q,.tmp r,.tmp s])(a:Array Value)(w:World):(results c a).run P w=.ok (.tuple #[a.getD p undef,a.getD q undef,a.getD r undef,a.getD s undef]) w:=by simp only[results,h];simp[Sem.run_bind,Sem.run_pure,Result.andThen]
def ajx(w:World)(p:Pl)(e:Ending)(w':World):Prop:=∃A c L A' c' gm f,e=.returned (.tuple #[.slice A L.length c,.slice A' L.length c',.map<|some gm,.int .i64 0])/\AU w w'/\U1 w' (.slice A L.length c) L/\Ints w' (.slice A' L.length c') (PO p (BN p) L.length)/\Gn p L (BN p) (Gj p) p.nodes/\Tv p L/\Qk w' gm p f/\w.heap.size<=gm/\∀x∈L,Own w' w.heap.size 24 1 JL (BO x.iv) x.inn/\Own w' w.heap.size 3 1 DF (BO x.av) x.Ci
def aeB(w:World)(z:Int)(e:Ending)(w':World):Prop:=e=.returned (.tuple #[.slice none 0 0,.slice none 0 0,.map none,.int .i64 z])/\AU w w'
theorem ajy(v:Value)(p:Pl)(w:World)(h:Cj w v p)(hv:LM p≠0):Calls prog 65 #[v] w<|aeB w<|LM p:=by
 have j:=V λW(hW:AU w W)=>avR v p W (h.mono hW) hv;obtain⟨s,C,K,al,rfl,-⟩:=h;generalize LM p=z at*;have M:(z !=0)=true:=by simpa using hv
 clear hv;go_enter func65,ntmps65;go_wp2_with fail;refine(j.1 _<|bA (bR w) _).mono ?_;rintro e w1⟨T,U,cl,rfl,c,-⟩;have o:=V<|J (bA (bR w) _) c;clear c j;go_wp2_with fail;exact bodyPost_ret (aeA rfl _ _) rfl ⟨rfl,o.1⟩
theorem aeC(v:Value)(p:Pl)(w:World)(h:Cj w v p)(hv:Valid p):Calls prog 65 #[v] w λe w'=>if PD p=true then ajx w p e w' else aeB w 12 e w':=by
 obtain⟨JE,Yj,SN,Ze⟩:=D9 (λW(hW:AU w W)=>aj3 v p W (h.mono hW) hv) (λW(hW:AU w W)=>aiQ v p W (h.mono hW) hv) (λvc CL gm f W(hW:AU w W)hc o z=>aiz v vc p CL gm f W (h.mono hW) hv hc o z) λvl L W(hW:AU w W)hl hd=>au9 v vl p L (BN p) p.nodes W (h.mono hW) hv hl hd<|List.Perm.refl _;obtain⟨_,_,_,al,rfl,hpa,⟨An,cn,rfl,-⟩,⟨⟨Aa,ca,rfl,-⟩,-⟩,⟨Af,cf,rfl,-⟩⟩:=h;generalize hnn:p.nodes.length=nn at*;generalize al.length=na at*;generalize hnf:p.faces.length=nf at*;obtain⟨q,hq⟩:=BM<|PD p;rw[hq];have HQ:=V hq;clear hpa hv hnn hnf hq;go_enter func65,ntmps65;go_wp2_with fail;refine(JE.1 _<|bA (bR w) _).mono ?_;rintro e w1⟨Ac,cc,CL,rfl,M,o,hco⟩;have T:=hco.read;have hle:(CV p).length=CL.length:=by rw[<-o,D6]
 rw[hle]at T⊢;have Oq:=V o;have Uo:=V T;have C:AO w1 w.heap.size 26 #[.slice An nn cn,.slice Aa na ca,.slice Af nf cf]:=(AO.made rfl _ _).keep M;have B1:=V<|J (bA (bR w) _) M;have DU:=V C;clear M JE o hco T hle;obtain⟨U,Aw,Az,BA,-⟩:=C.BF;go_wp2_with fail;refine(Yj.1 _ B1.1).mono ?_;rintro e w2⟨gm,f,rfl,hb2,hgm,z⟩;obtain⟨B2,CW,ajz,Jl⟩:=D9 (J B1.1 hb2) (DU.1.keep hb2) (Uo.1.mono hb2) z;have hgw:w.heap.size<=gm:=Du B1.1.size hgm;clear hb2 z DU Uo C U Aw Az BA Yj B1 hgm;have C:=CW.1;try clear U Aw Az BA
 obtain⟨U,Aw,Az,BA,-⟩:=C.BF;go_wp2_with fail;refine(SN.1 _ CL gm f _ B2.1 ajz.1 Oq.1 Jl.1).mono ?_;rintro e w3⟨A,c,L,rfl,s,K,hdv,htw⟩;obtain⟨B3,FN,aBB,HA,HD,HT⟩:=Lp (J B2.1 s) (CW.1.keep s) (Jl.1.keep s) (K.full s) hdv htw;have hz2:=B2.1.size;have HOw:=V<|show∀x∈L,Own w3 w.heap.size 24 1 JL (BO x.iv) x.inn/\Own w3 w.heap.size 3 1 DF (BO x.av) x.Ci fromλx hx=>⟨(K.inn x hx).EN hz2,(K.Ci x hx).EN hz2⟩;have HLn:=V<|show(BN p).length+1=L.length from hdv.len.symm;clear s K hdv htw CW ajz Jl C U Aw Az BA SN B2 hz2;have C:=FN.1;try clear U Aw Az BA
 obtain⟨U,Aw,Az,BA,-⟩:=C.BF;go_wp2_with fail;refine(Ze.1 _ L _ B3.1 HA.1 HD.1).mono ?_;rintro e w4⟨A',n',c',rfl,j,hof⟩;rw[HQ.1]at hof⊢;obtain⟨B4,wL,Jc,U2,aup⟩:=G9 (J B3.1 j) (aBB.1.keep j) (HA.1.mono j) hof<|show∀x∈L,Own w4 w.heap.size 24 1 JL (BO x.iv) x.inn/\Own w4 w.heap.size 3 1 DF (BO x.av) x.Ci fromλx hx=>⟨(HOw.1 x hx).1.keep j,(HOw.1 x hx).2.keep j⟩;clear j hof C U Aw Az BA Ze HA aBB FN B3 HOw;cases q;case false=>go_wp2_with fail;exact bodyPost_ret (aeA rfl _ _) rfl<|by(try rw[AX BI]);exact⟨rfl,B4.1⟩
 have ho:=U2.1 rfl;rw[HLn.1]at ho;have hnl:n'=L.length:=by obtain⟨A9,c9,h9,-⟩:=Own.Il ho;rw[Vr]at h9;injection h9
 subst hnl;have HO:=V ho;clear ho;go_wp2_with fail;refine bodyPost_ret (aeA rfl _ _) rfl ?_;try rw[AZ rfl]
 refine⟨A,c,L,A',c',gm,f,rfl,B4.1,Jc.1,?_,HD.1,HT.1,wL.1,hgw,aup.1⟩;have:=HO.1.sl;rw[Vr]at this;unfold Ints;rw[Vr];exact this
def Fa(p:Pl):Int:=if LM p≠0 then LM p else if PD p=true then 0 else 12
theorem auq(v:Value)(p:Pl)(w:World)(h:Cj w v p):Calls prog 26 #[v] w λe w'=>e=.returned (.int .i64<|Fa p)/\AU w w':=by
 have s:=V (show∀W,AU w W->Calls prog 65 #[v] W λe w'=>(∃A B C,e=.returned (.tuple #[A,B,C,.int .i64<|Fa p]))/\AU W w' fromλW K=>by
  by_cases hv:LM p=0
  .refine(aeC v p W (h.mono K)<|(mO p).1 hv).mono ?_;intro e w' j;unfold Fa;rw[AX<|by simpa using hv];by_cases hf:PD p=true;.rw[AZ hf]at j⊢;obtain⟨A,c,L,T,U,gm,f,rfl,hb,-⟩:=j;exact⟨⟨_,_,_,rfl⟩,hb⟩
   rw[AX hf]at j⊢;exact⟨⟨_,_,_,j.1⟩,j.2⟩
  refine(ajy v p W (h.mono K) hv).mono ?_;rintro e w'⟨rfl,hb⟩;unfold Fa;rw[AZ hv];exact⟨⟨_,_,_,rfl⟩,hb⟩);obtain⟨vn,va,vf,al,rfl,-⟩:=h;generalize Fa p=z at*;go_enter func26,ntmps26;go_wp2_with fail;refine(s.1 _<|bA (bR w) _).mono ?_;rintro e w1⟨⟨A,B,C,rfl⟩,o⟩;have M:=V<|J (bA (bR w) _) o;clear o s;go_wp2;go_ret;exact⟨rfl,M.1⟩
structure Rg where
 face:Int
 out:List Int
 inn:List (List Int)Ci:List Int
def Ut(p:Pl)(b:Option<|List Int):Rg:=⟨JZ p b,b.getD [],Mc p b,Sr p b⟩
def aFj(p:Pl)(O:List<|List Int)(f:Int):List Rg:=(O.filter<|λX=>decide<|JZ p (some X)=f).map λX=>Ut p<|some X
def jk(p:Pl)(O:List<|List Int):List Rg:=Ut p none::p.faces.flatMap (aFj p O)
theorem ak0{α:Type}(g:α->Int)(O:List α):∀{c:List Int},c.Nodup->(c.flatMap λf=>O.filter<|λX=>decide<|g X=f).Perm (O.filter<|λX=>decide<|g X∈c)
 |[],_=>by simp|f::c,h=>by
  obtain⟨j,hn⟩:=lD.1 h;rw[LC];refine((ak0 g O hn).append_left _).trans ?_;have o:O.filter (λX=>decide<|g X=f)=(O.filter<|λX=>decide<|g X∈f::c).filter λX=>decide<|g X=f:=by rw[aDu];congr 1;funext X;by_cases e:g X=f<;>simp[e]
  have s:O.filter (λX=>decide<|g X∈c)=(O.filter<|λX=>decide<|g X∈f::c).filter λX=>!decide (g X=f):=by
   rw[aDu];congr 1;funext X;by_cases e:g X=f;.simp[e,j]
   simp[e]
  rw[o,s];exact aa5 _ _
theorem aur{p:Pl}(h:Valid p)(j:Ru p){O:List<|List Int}(c:O.Perm<|BN p):(jk p O).Perm<|(Ku p).map<|Ut p:=by
 unfold jk Ku;rw[FB,KP];refine List.Perm.cons _ ?_;have hn:p.faces.Nodup:=h.adK.imp λh=>I;have e:p.faces.flatMap (aFj p O)=(p.faces.flatMap λf=>O.filter<|λX=>decide<|JZ p (some X)=f).map λX=>Ut p<|some X:=by rw[aCb];rfl
 rw[e];refine List.Perm.map _<|((ak0 (λX=>JZ p<|some X) O hn).trans ?_).trans c;have:O.filter (λX=>decide<|JZ p (some X)∈p.faces)=O:=by
  rw[List.filter_eq_self];intro X o;rw[DI];rcases h.aEW<|X.headD 0 with e|e;.exact absurd e<|j.some X<|c.subset o
  exact e
 rw[this]
theorem aBz{p:Pl}{O:List<|List Int}{f:Int}{r:Rg}(h:r∈aFj p O f):r.face=f:=by unfold aFj at h;obtain⟨X,c,rfl⟩:=EP.1 h;exact of_decide_eq_true (Nc.1 c).2
theorem aus{p:Pl}(h:Valid p)(O:List<|List Int):(jk p O).Pairwise λa b=>a.face<=b.face:=by
 unfold jk;rw[I8,qy];refine⟨λr c=>?_,λf o=>?_,h.adK.imp λ{f g}s x z y C=>?_⟩;.obtain⟨f,o,c⟩:=Fj.1 c;rw[aBz c];have:=h.ajG o;show(0:Int)<=f;omega
 .rw[FT];intro i j hi K _;rw[aBz<|BG hi,aBz<|BG K];exact J8 _
 rw[aBz z,aBz C];omega
theorem aut{p:Pl}(C:Ru p){a b:Rg}(T:a∈(Ku p).map (Ut p))(hb:b∈(Ku p).map (Ut p))(e:a.face=b.face):a=b:=by
 obtain⟨x,o,rfl⟩:=EP.1 T;obtain⟨y,s,rfl⟩:=EP.1 hb;unfold Ku at o s;have K:∀X∈BN p,∀Y∈BN p,JZ p (some X)=JZ p (some Y)->X=Y:=by
  intro X z Y F e;obtain⟨i,hi,rfl⟩:=Dy.1 z;obtain⟨j,M,rfl⟩:=Dy.1 F;have hd:=C.differ;unfold List.Nodup at hd;rw[H9,FT]at hd;rcases Om i j with c|c|c;.exact absurd e<|hd i j hi M c
  .subst c;rfl
  exact absurd e.symm<|hd j i M hi c
 rcases Dv.1 o with rfl|o<;>rcases Dv.1 s with rfl|s;.rfl
 .obtain⟨Y,F,rfl⟩:=EP.1 s;exact absurd e.symm<|C.some Y F
 .obtain⟨X,z,rfl⟩:=EP.1 o;exact absurd e<|C.some X z
 obtain⟨X,z,rfl⟩:=EP.1 o;obtain⟨Y,F,rfl⟩:=EP.1 s;rw[K X z Y F e]
theorem auu{p:Pl}(h:Valid p)(j:Ru p){O:List<|List Int}(o:O.Perm<|BN p){l:List Rg}(c:l.Perm<|(Ku p).map<|Ut p)(s:l.Pairwise λa b=>a.face<=b.face):l=jk p O:=by refine nN (lt:=λa b=>decide<|a.face<b.face) (c.trans (aur h j o).symm) (s.imp<|λh=>by simp;omega) ((aus h O).imp<|λh=>by simp;omega) λa z b hb h1 h2=>?_;simp only[IL]at h1 h2;exact aut j (c.subset z) (c.subset hb) I
theorem auv(v:Value)(p:Pl)(w:World)(h:Cj w v p):Calls prog 62 #[v] w λe w'=>e=.returned (.int .i64<|Fa p)/\AU w w':=by
 have M:=V λW(hW:AU w W)=>agJ v p W<|h.mono hW;have T:=V λ(hv:LM p=0)W(hW:AU w W)=>(avY v p W (h.mono hW)<|(mO p).1 hv).mono (R':=λe w'=>(∃A n c,e=.returned (.tuple #[.slice A n c,.bool<|PD p]))/\AU W w') (by rintro e w'⟨A,n,c,h1,h2,-⟩;exact⟨⟨A,n,c,h1⟩,h2⟩);obtain⟨vn,va,vf,al,rfl,-⟩:=h;obtain⟨z,hz⟩:=BM<|LM p;obtain⟨R,s⟩:=BM<|Fa p;rw[s];unfold Fa at s;rw[hz]at M T s;by_cases h0:z=0
 .subst h0;rw[AX Ak]at s;have U:=V s;clear s hz;obtain⟨q,hq⟩:=BM<|PD p;rw[hq]at T U;clear hq;go_enter func62,ntmps62;go_wp2_with fail;refine(M.1 _<|bA (bR w) _).mono ?_;rintro e w1⟨rfl,j⟩;have o:=V<|J (bA (bR w) _) j;have X1:AO w1 w.heap.size 26 #[vn,va,vf]:=(AO.made rfl _ _).keep j;clear j M;obtain⟨Au,Aw,Az,BA,-⟩:=X1.BF;go_wp2_with fail;refine(T.1 (by trivial) _ o.1).mono ?_;rintro e w2⟨⟨A,n,c,rfl⟩,hb2⟩;have HB2:=V<|J o.1 hb2;clear hb2 T o X1 Au Aw Az BA;cases q;.have C:=U.1;rw[AX BI]at C;have K:=V C;clear C U;go_wp2;go_ret;exact⟨by rw[<-K.1];rfl,HB2.1⟩
  have C:=U.1;rw[AZ rfl]at C;have K:=V C;clear C U;go_wp2;go_ret;exact⟨by rw[<-K.1];rfl,HB2.1⟩
 rw[AZ h0]at s;subst s;have hb:(z !=0)=true:=by simpa using h0
 clear h0 T hz;go_enter func62,ntmps62;go_wp2_with fail;refine(M.1 _<|bA (bR w) _).mono ?_;rintro e w1⟨rfl,j⟩;have o:=V<|J (bA (bR w) _) j;clear j M;go_wp2;go_ret;exact⟨rfl,o.1⟩
def RF(x:AD):Rg:=⟨x.tw,x.out,x.inn.map (·.1),x.Ci⟩
theorem Gn.rg{p:Pl}{L:List AD}{O:List<|List Int}(h:Gn p L O (Gj p) p.nodes)(o:∀i(hi:i<L.length),L[i].tw=IJ p O i){i:Nat}(hi:i<L.length):RF L[i]=Ut p (NU O i):=by have c:=h.aFe hi;unfold Nz Nw GN at c;rw[FB]at c;injection c with h1 h2;unfold RF Ut;rw[o i hi,h.Ci i hi];have j:L[i].out=(NU O i).getD []:=h1;rw[j,h2];rfl
def auw(w:World)(p:Pl)(e:Ending)(w':World):Prop:=∃A c L,e=.returned (.tuple #[.slice A L.length c,.int .i64 0])/\AU w w'/\U1 w' (.slice A L.length c) L/\L.map RF=jk p (sortK<|BN p)
open Go.RowKit Go.Sort
theorem QA{p:Pl}(hv:Fa p=0):Valid p/\PD p=true:=by
 unfold Fa at hv;split at hv;.rename_i h0;exact absurd hv h0
 rename_i h0;split at hv;.rename_i h1;exact⟨(mO p).1 ql,h1⟩
 cases hv
theorem ak1(v:Value)(p:Pl)(w:World)(h:Cj w v p)(hv:Fa p≠0):Calls prog 65 #[v] w<|aeB w<|Fa p:=by
 by_cases h0:LM p=0
 .have c:Fa p=if PD p=true then 0 else 12:=by unfold Fa;rw[AX ql]
  have j:¬PD p=true:=λe=>hv (by rw[c,AZ e]);rw[c,AX j];refine(aeC v p w h<|(mO p).1 h0).mono λe w' g=>?_;rw[AX j]at g;exact g
 have c:Fa p=LM p:=by unfold Fa;rw[AZ h0]
 rw[c];exact ajy v p w h h0
theorem aFk(v:Value)(p:Pl)(w:World)(h:Cj w v p)(hv:Fa p=0):Calls prog 65 #[v] w<|ajx w p:=by obtain⟨h1,h2⟩:=QA hv;refine(aeC v p w h h1).mono λe w' g=>?_;rw[AZ h2]at g;exact g
theorem auy{p:Pl}{L:List AD}{O:List<|List Int}(h:Gn p L O (Gj p) p.nodes):(Ky p O L L.length).map RF=(none::O.map some).map (Ut p):=by
 have hd:=ajr h L.length;have o:∀i(hi:i<(Ky p O L L.length).length),(Ky p O L L.length)[i].tw=IJ p O i:=λi hi=>by
  have c:i<L.length:=by rw[OW]at hi;exact hi
  rw[SK hi c,AZ c]
 have s:=hd.len;apply Xf (by simp[s]);intro i h1 h2;have h3:i<(Ky p O L L.length).length:=by simpa using h1
 rw[Ib,hd.rg o h3,Ib];congr 1;by_cases e:i=0;.subst e;rfl
 obtain⟨j,rfl⟩:∃j,i=j+1:=⟨i-1,I⟩;rw[YC I I];simp
theorem auz(v:Value)(p:Pl)(w:World)(h:Cj w v p)(hv:Fa p=0):Calls prog 30 #[v] w<|auw w p:=by
 obtain⟨hvv,hfb⟩:=QA hv;obtain⟨HV,HFk,HC,Qx⟩:=D9 hvv (uZ.1 hfb) (λW(hW:AU w W)=>aFk v p W (h.mono hW) hv) @avQ;have hol:(BN p).length<=512:=Du (NH _ _) hvv.SX;obtain⟨vn,va,vf,al,rfl,-⟩:=h;clear hv hfb hvv;go_enter func30,ntmps30;go_wp2_with fail;refine(HC.1 _<|bA (bR w) _).mono ?_;rintro e w1⟨A,c,L,A',c',gm,f,rfl,hb1,Qc,hfi,hdv,-⟩;obtain⟨HB1,HA,HD⟩:=CB (J (bA (bR w) _) hb1) Qc hdv;have hll:L.length=(BN p).length+1:=hdv.len;have hl1:L.length<=513:=I;have hfl:=Vr p (BN p) L.length;obtain⟨Al,cl,hel,hl2,hl3,hRl⟩:=Qc.sl;injection hel with y1 y2 y3;subst y1 y3;clear y2;unfold Ints at hfi;rw[hfl]at hfi;obtain⟨Af,cf,hef,hf2,hf3,aC0⟩:=hfi;injection hef with y1 y2 y3;subst y1 y3;clear y2;unfold maxLen at hl3 hf3;obtain⟨HRl,jl,Jw⟩:=CB hRl aC0 hll;have aeD:=OW p (BN p) L L.length;obtain⟨j,hF⟩:=BM<|Ky p (BN p) L L.length;have qJ:=V hF;rw[hF]at aeD;have Xy:=V aeD;clear hb1 Qc hdv hRl aC0 HC hF hfl hll aeD;go_upto_block 0 with fail;go_wp2_with fail;go_loopw[2,21](λs i wr=>∃k:Nat,k<=L.length/\i=.int .i64 k/\(∃A c,s=.slice A k c)/\Own wr w1.heap.size 69 4 EH s (j.take k)/\AU w1 wr)λ_ i _=>L.length-(intOf i).toNat;case atStart=>exact⟨0,C9 _,rfl,⟨_,_,rfl⟩,by rw[PZ];exact Own.nil _ _ _ _ _,bR w1⟩
 obtain⟨k,hk,rfl,⟨A5,c5,rfl⟩,ho,hb⟩:=hrel;obtain⟨wo,rfl⟩:=BR wr;have HO:=V ho;have HB:=V hb;have hzo:=hb.size;clear ho hb;by_cases hlt:k<L.length
 .obtain⟨b,o,rfl,hlb,c0,c1,c2,c3⟩:=(HRl.1.mono HB.1).ad hlt;have hfk:k<(PO p (BN p) L.length).length:=by rw[Vr];exact hlt
  obtain⟨bf,of_,rfl,ayi,f0⟩:=(jl.1.mono HB.1).int hfk;have hkF:k<j.length:=by rw[Xy.1];exact hlt
  have z:j.take (k+1)=j.take k++[j[k]]:=Eu hkF;have hfv:(PO p (BN p) L.length)[k]=IJ p (BN p) k:=by simp only[PO,Ib,List.getElem_range]
  have hFk:j[k]={L[k]with tw:=IJ p (BN p) k}:=by have:=SK (p:=p) (O:=BN p) (L:=L) (k:=L.length) (i:=k) (by rw[OW];exact hlt) hlt;rw[AZ hlt]at this;rw[<-this];congr 1;exact qJ.1.symm
  rw[hfv]at f0;rw[hFk]at z;generalize IJ p (BN p) k=fc at*;generalize L[k]=x at*;obtain⟨tw,X,⟨oa,on,oc⟩,In,⟨ia,IX,ic⟩,al',⟨aa,an,ac⟩⟩:=x;unfold BO at c1 c2 c3;simp only at c0 c1 c2 c3 z;have FI:=V z;clear z hFk hfv;go_upto_region 7 with fail;obtain⟨T,hW⟩:∃W:World,W=wo.alloc (.cells #[.int .i64 tw,.slice oa on oc,.slice ia IX ic,.slice aa an ac] 99):=⟨_,rfl⟩;have hA:AU wo T:=by rw[hW];exact bA (bR wo) _
  obtain⟨g8,P9⟩:=BM wo.heap.size;have X5:AO T g8 99 #[.int .i64 tw,.slice oa on oc,.slice ia IX ic,.slice aa an ac]:=by rw[hW];exact AO.made P9.symm _ _
  have HB2:=V<|J HB.1 hA;have EZ:=V<|HO.1.keep hA;replace f0:=Dk hA f0;have n1:some g8≠(Value.slice A5 k c5).ownBlock:=λe=>by have:=(HO.1.lt _ e.symm).2;omega
  have n2:some bf≠(Value.slice A5 k c5).ownBlock:=λe=>by
   have:=(HO.1.lt _ e.symm).1;have:bf<w1.heap.size:=by obtain⟨b9,o9,e9,h9,-⟩:=jl.1.int hfk;injection e9 with e9;injection e9 with e9 _ _;omega
   omega
  have hzW:wo.heap.size<=T.heap.size:=hA.size;have av1:bf<T.heap.size:=I;have av2:w1.heap.size<=T.heap.size:=I;rw[<-hW];try rw[P9]
  clear hW hA c0 c1 c2 c3 hlb HO HB;have U:(j.take k).length=k:=by rw[JF];omega
  have hsh:(j.take k++[(⟨fc,X,⟨oa,on,oc⟩,In,⟨ia,IX,ic⟩,al',⟨aa,an,ac⟩⟩:AD)]).length=k+1:=by rw[EK,U];rfl
  have DN:=V hsh;have ayj:(j.take k).length<=513:=I;have kf1:(k:Int)<L.length:=I;have kf2:0<=(k:Int):=I;clear hsh U;obtain⟨CJ,CO,CQ,Gi,Vo,-⟩:=X5.MC;refine Wn T (Value.slice A5 k c5).ownBlock (.run 12 0 0<|.call 12 8191<|.call 13 16383<|.take 14 32767<|.done) λCG QR Ae Aj hS=>?_;iterate 12 refine Ah ?_
  refine BP ?_;clear hS;intro K hK AQ;go_simp;refine hK.out _ _ (gA AQ.out _) λhS=>?_;clear hK K AQ;try simp only[pu]
  refine BP ?_;clear hS;intro K hK AQ;refine Ir (.tmp 26) (.tmp 38) _ rfl (base:=w1.heap.size) aia SQ aAj rfl ((EZ.1.keep<|bD<|bR T).alloc _) rfl (l2:=[(⟨fc,X,⟨oa,on,oc⟩,In,⟨ia,IX,ic⟩,al',⟨aa,an,ac⟩⟩:AD)]) (Sl.lit (n:=1) (AO.made rfl _ _) rfl<|DC I) DY DY D8 ?_;intro v3 wr3 ho3 hg hat;obtain⟨A6,c6,hv6,-⟩:=Own.Il ho3;rw[DN.1]at hv6;subst hv6;have hS:aV T (Value.slice A5 k c5).ownBlock wr3:=gT AQ.out hg;clear AQ;refine hK.out _ _ hS λ_=>?_;clear hK K;try simp only[pu]
  refine Ah ?_;refine U7 ?_;clear hS Aj Ae;intro hB;have Eo:=V ho3;have HB3:=V<|afN HB2.1 av2 hB<|λg hg=>(EZ.1.lt g hg).1;clear ho3 hg hat hB f0 X5 CJ CO CQ Gi Vo n1 n2 av1;go_wp2;go_roundw;case rel=>exact⟨k+1,I,BH,⟨A6,c6,rfl⟩,by rw[FI.1];exact Eo.1,HB3.1⟩
  exact BJ
 obtain rfl:k=L.length:=I;have hFt:j.take L.length=j:=Ip (by rw[Xy.1];omega);have hoF:=HO.1;rw[hFt]at hoF;have HOF:=V hoF;clear hoF hFt HO;go_wp2_with fail;refine(Qx.1 w1.heap.size _ j wo HOF.1<|by rw[Xy.1];omega).mono ?_;rintro e w5⟨rfl,M,hp,hs,Dq,hg5⟩;have Cb:=V<|bG HB.1 hg5<|λg hg=>(HOF.1.lt g hg).1;have hml:M.length=L.length:=by rw[hp.length_eq,Xy.1]
 have HP:=V hp;have HMl:=V hml;have HS:=V<|show M.Pairwise<|λa b=>a.tw<=b.tw from hs.imp (λ{a b}g=>by have g':ltOf (λx y:AD=>Lj x.tw y.tw) b a=false:=g;rw[sJ<|λx:AD=>x.tw,IL]at g';omega);have aeE:=V (show M.map RF=jk p (sortK<|BN p)from by
  refine auu HV.1 HFk.1 (Wi<|BN p).1 ?_ ?_;.refine(HP.1.map RF).trans ?_;rw[<-qJ.1,auy HD.1];exact List.Perm.refl _
  rw[H9];exact HS.1);have Rw:=V (show∀x∈M,∃y∈L,∃t,x={y with tw:=t}fromλx C=>by have h9:=HP.1.subset C;rw[<-qJ.1]at h9;exact ajq h9);have Io:=V<|HA.1.mono Cb.1;have hsl:=Dq.sl;rw[hml]at hsl;have RD:=V hsl;clear hp hs Dq hg5 hml hsl;go_wp2_with fail;go_ret2;refine⟨A5,c5,M,by rw[HMl.1];rfl,J HB1.1 Cb.1,⟨by rw[HMl.1];exact RD.1,λx C=>?_,λx C=>?_,λx C=>?_,λx C=>?_⟩,aeE.1⟩;.obtain⟨y,hy,t,rfl⟩:=Rw.1 x C;exact Io.1.out y hy
 .obtain⟨y,hy,t,rfl⟩:=Rw.1 x C;exact Io.1.inn y hy
 .obtain⟨y,hy,t,rfl⟩:=Rw.1 x C;exact Io.1.Ik y hy
 obtain⟨y,hy,t,rfl⟩:=Rw.1 x C;exact Io.1.Ci y hy
def onI(PP:List Pt)(v:Pt)(i:Nat):Bool:=match PP[i]?,PP[i+1]? with|some a,some b=>Eh a b v|_,_=>false
def Uf(PP:List Pt)(v:Pt)(k:Nat):Bool:=(List.range k).any<|onI PP v
def RG(p:Pl)(v:Pt)(a:Ar):Bool:=Uf (AV p a) v<|(AV p a).length-1
def RH(p:Pl)(v:Pt):Int×Int×Int:=if Fa p≠0 then(0,0,Fa p)else if KC v=false then(0,0,2)else match p.nodes.find? λn=>decide<|n.pt=v with|some n=>(1,n.id,0)|none=>match p.AP.find?<|RG p v with|some a=>(2,a.id,0)|none=>(0,JZ p<|F8 p v,0)
def aC1(t:Int×Int×Int):Value:=.tuple #[.int .i64 t.1,.int .i64 t.2.1,.int .i64 t.2.2]
theorem aFl{c:List Pt}{v:Pt}{i:Nat}(h:i+1<c.length):onI c v i=Eh (c[i]'(by omega)) c[i+1] v:=by unfold onI;rw[DK h,DK<|show i<c.length by omega]
theorem aFm(c:List Pt)(v:Pt)(k:Nat):Uf c v (k+1)=(Uf c v k||onI c v k):=by unfold Uf;rw[aU,aDl];simp
theorem ak2{c:List Pt}{v:Pt}{k m:Nat}(hk:k<=m)(h:Uf c v k=true):Uf c v m=true:=by unfold Uf at*;rw[PW]at*;obtain⟨i,hi,e⟩:=h;exact⟨i,FC.2<|IQ (FC.1 hi) hk,e⟩
theorem aFo{α:Type}{P:α->Bool}{l:List α}{k:Nat}(hk:k<l.length)(h:(l.take k).find? P=none)(hn:P l[k]=false):(l.take<|k+1).find? P=none:=by rw[Eu hk,List.find?_append,h];simp[hn]
theorem aFp{α:Type}{P:α->Bool}{l:List α}{k:Nat}(hk:k<l.length)(h:(l.take k).find? P=none)(hn:P l[k]=true):l.find? P=some l[k]:=by
 have e:l.find? P=(l.take k++l[k]::l.drop (k+1)).find? P:=by rw[<-Ql hk,gK]
 rw[e,List.find?_append,h];simp only[Option.none_or,List.find?_cons,hn]
section
variable{p:Pl}{v:Pt}(h0:Fa p=0)(h1:KC v=true)
include h0 h1
theorem av3{k:Nat}(hk:k<p.nodes.length)(h:(p.nodes.take k).find? (λn=>decide<|n.pt=v)=none)(c:p.nodes[k].pt=v):RH p v=(1,p.nodes[k].id,0):=by unfold RH;rw[AX ql,AX<|by simp[h1],aFp hk h<|by simpa using c]
theorem av4(hn:p.nodes.find? (λn=>decide<|n.pt=v)=none){k:Nat}(hk:k<p.AP.length)(h:(p.AP.take k).find? (RG p v)=none)(c:RG p v p.AP[k]=true):RH p v=(2,p.AP[k].id,0):=by unfold RH;rw[AX ql,AX<|by simp[h1],hn];simp only;rw[aFp hk h c]
theorem av5(hn:p.nodes.find? (λn=>decide<|n.pt=v)=none)(c:p.AP.find? (RG p v)=none):RH p v=(0,JZ p<|F8 p v,0):=by unfold RH;rw[AX ql,AX<|by simp[h1],hn];simp only;rw[c]
end
theorem ak3(p:Pt)(w:World):Calls prog 86 #[BD p] w λe w'=>e=.returned (.bool<|KC p)/\AU w w':=by unfold BD;go_enter func86,ntmps86;go_wp2_with fail;all_goals go_ret;refine⟨Cm<|by rw[KC,KQ];simp only[EC,DI,true_iff,O7,false_iff];omega,?_⟩;exact ER
theorem av6(v:Value)(p:Pl)(at_:Pt)(w:World)(h:Cj w v p)(hv:Fa p≠0):Calls prog 35 #[v,BD at_] w λe w'=>e=.returned (aC1 (0,0,Fa p))/\AU w w':=by
 have o:=V λW(hW:AU w W)=>ak1 v p W (h.mono hW) hv;obtain⟨s,C,K,al,rfl,-⟩:=h;generalize Fa p=z at*;have hb:(z !=0)=true:=by simpa using hv
 unfold BD;clear hv;go_enter func35,ntmps35;go_wp2_with fail;refine(o.1 _<|bA (bA (bR w) _) _).mono ?_;rintro e w1⟨rfl,c⟩;have j:=V<|J (bA (bA (bR w) _) _) c;clear c o;go_wp2_with fail;exact bodyPost_ret (results_tmp3 rfl _ _ _) rfl ⟨rfl,j.1⟩
theorem av7(v:Value)(p:Pl)(at_:Pt)(w:World)(h:Cj w v p)(hv:Fa p=0)(hk:KC at_=false):Calls prog 35 #[v,BD at_] w λe w'=>e=.returned (aC1 (0,0,2))/\AU w w':=by
 have U:=V λW(hW:AU w W)=>aFk v p W (h.mono hW) hv;have z:=V λW=>ak3 at_ W;rw[hk]at z;obtain⟨vn,va,vf,al,rfl,-⟩:=h;unfold BD at z⊢;clear hv hk;go_enter func35,ntmps35;go_upto_region 1 with fail;obtain⟨C,hW⟩:=BR<|(w.alloc<|.cells #[vn,va,vf] 26).alloc<|.cells #[.int .i64 at_.x,.int .i64 at_.y] 50;have K:AO C w.heap.size 26 #[vn,va,vf]:=by rw[hW];exact(AO.made rfl _ _).alloc _
 have X2:AO C (w.heap.size+1) 50 #[.int .i64 at_.x,.int .i64 at_.y]:=by rw[hW];exact AO.made Ak _ _
 have j:=V (show AU w C by rw[hW];exact bA (bA (bR w) _) _);rw[<-hW];clear hW;have DU:=V K;have CW:=V X2;obtain⟨Au,Aw,Az,BA,-⟩:=K.BF;go_wp2_with fail;refine(U.1 _ j.1).mono ?_;rintro e w1⟨A,c,L,A',c',gm,f,rfl,o,-⟩;have M:=V<|J j.1 o;have X3:=CW.1.keep o;clear o U K Au Aw Az BA DU CW X2 j;obtain⟨E5,Em,Ew,-⟩:=X3.BL;go_wp2_with fail;refine(z.1 _).mono ?_;rintro e w3⟨rfl,s⟩;have T:=V<|J M.1 s;clear s;go_wp2_with fail;exact bodyPost_ret (results_tmp3 rfl _ _ _) rfl ⟨rfl,T.1⟩
theorem av8(v:Value)(p:Pl)(at_:Pt)(w:World)(h:Cj w v p)(hv:Fa p=0)(hk:KC at_=true):Calls prog 35 #[v,BD at_] w λe w'=>e=.returned (aC1<|RH p at_)/\AU w w':=by
 obtain⟨M,hfb⟩:=QA hv;have HV:=V M;have nv:=aEh hk;obtain⟨HLn,aC2,aC3,HC,jm,II,vX⟩:=V9 (λk(hl:k<p.nodes.length)hf s=>av3 (v:=at_) hv hk hl hf s) (λhn k(hl:k<p.AP.length)hf s=>av4 (v:=at_) hv hk hn hl hf s) (λhn ha=>av5 (v:=at_) hv hk hn ha) (λW(hW:AU w W)=>aFk v p W (h.mono hW) hv) (λW=>ak3 at_ W) (λa b W=>zB a b at_ W) λW gm f(hpm:Qk W gm p f)vl L(hL:oU W vl L)hd hl=>ajD W gm p f hpm M vl L hL hd hl at_ nv;have hol:(BN p).length<=512:=Du (NH _ _) M.SX;rw[hk]at jm;obtain⟨_,_,_,al,rfl,hpa,⟨An,cn,rfl,hn1,hn2,jo⟩,⟨⟨Aa,ca,rfl,ha1,ha2,G6⟩,TB⟩,⟨Af,cf,rfl,-⟩⟩:=h;unfold maxLen at hn2 ha2;generalize p.faces.length=nf at*;have hal:al.length=p.AP.length:=by rw[hpa,D6]
 have aC4:p.nodes.length<=256:=M.bg;have hqa:p.AP.length<=256:=by have hl:=M.lim;unfold Jr at hl;simp at hl;omega
 obtain⟨HRn,IU,ou,Iy,Nv⟩:=G9 jo G6 TB hpa hal;have ak4:al.length<=256:=I;unfold BD at jm II vX⊢;clear hv hk M hfb jo G6 TB hpa nv hal;go_enter func35,ntmps35;go_upto_region 1 with fail;obtain⟨W1,hW⟩:=BR<|(w.alloc<|.cells #[.slice An p.nodes.length cn,.slice Aa al.length ca,.slice Af nf cf] 26).alloc<|.cells #[.int .i64 at_.x,.int .i64 at_.y] 50;have X1:AO W1 w.heap.size 26 #[.slice An p.nodes.length cn,.slice Aa al.length ca,.slice Af nf cf]:=by rw[hW];exact(AO.made rfl _ _).alloc _
 have X2:AO W1 (w.heap.size+1) 50 #[.int .i64 at_.x,.int .i64 at_.y]:=by rw[hW];exact AO.made Ak _ _
 have HB1:=V (show AU w W1 by rw[hW];exact bA (bA (bR w) _) _);rw[<-hW];clear hW;have DU:=V X1;have CW:=V X2;obtain⟨Au,Aw,Az,BA,-⟩:=X1.BF;go_wp2_with fail;refine(HC.1 _ HB1.1).mono ?_;rintro e w1⟨A,c,L,A',c',gm,f,rfl,hb1,Qc,hfi,hdv,htw,hpm,hgm,-⟩;obtain⟨HB2,Vs,qK⟩:=CB (J HB1.1 hb1) (DU.1.keep hb1)<|CW.1.keep hb1;have X3:=qK.1;obtain⟨HA,HD,HT,Jl⟩:=D9 Qc hdv htw hpm;have hll:L.length=(BN p).length+1:=hdv.len;have hfl:=Vr p (BN p) L.length;obtain⟨Al,cl,hel,hl2,hl3,hRl⟩:=Qc.sl;injection hel with y1 y2 y3;subst y1 y3;clear y2;unfold Ints at hfi;rw[hfl]at hfi;obtain⟨Af',cf',hef,hf2,hf3,aC0⟩:=hfi;injection hef with y1 y2 y3;subst y1 y3;clear y2;have jl:=V aC0;clear hb1 HC X1 Au Aw Az BA DU CW X2 HB1 Qc hdv htw hpm hRl aC0 hl2 hl3 hf2 hf3 hfl;obtain⟨E5,Em,Ew,-⟩:=X3.BL;go_wp2_with fail;refine(jm.1 _).mono ?_;rintro e w3⟨rfl,z⟩;obtain⟨HB3,DU,CW,JD,aBB,ak5⟩:=Lp (J HB2.1 z) (Vs.1.keep z) (qK.1.keep z) (HA.1.mono z) (Jl.1.keep z)<|jl.1.mono z;clear z X3 E5 Em Ew Vs qK HA Jl jl HB2 jm;have X1:=DU.1;try clear Au Aw Az BA
 obtain⟨Au,Aw,Az,BA,-⟩:=X1.BF;go_upto_block 0 with fail;clear X1 Au Aw Az BA;go_wp2_with fail;go_loopw[32](λu wr=>∃k:Nat,k<=p.nodes.length/\u=.int .i64 k/\(p.nodes.take k).find? (λn=>decide<|n.pt=at_)=none/\AU w3 wr)λu _=>p.nodes.length-(intOf u).toNat;case atStart=>exact⟨0,C9 _,rfl,rfl,bR w3⟩
 obtain⟨k,hk,rfl,hno,hb⟩:=hrel;obtain⟨wo,rfl⟩:=BR wr;have Fz:=V hno;have j:=V hb;clear hno hb;by_cases hlt:k<p.nodes.length
 .obtain⟨b,o,hA',hlb,c0,c1,c2⟩:=(HRn.1.mono<|J HB3.1 j.1).nd hlt;subst hA';have X2:=CW.1.keep j.1;have hx2:=X2.lt;have KI:=V λs=>HLn.1 k hlt Fz.1 s;have JK:=V λhne=>aFo hlt Fz.1 hne;generalize p.nodes[k]=x at*;obtain⟨id,x0,y0⟩:=x;simp only at c0 c1 c2;have qL:(k:Int)<p.nodes.length:=I;have qM:0<=(k:Int):=I;obtain⟨BX,Bf,Bh,-⟩:=X2.BL;go_upto_region 9 with fail;obtain⟨W5,hW⟩:∃W:World,W=wo.alloc (.cells #[.int .i64 id,.int .i64 x0,.int .i64 y0] 56):=⟨_,rfl⟩;obtain⟨g11,aFq⟩:=BM wo.heap.size;have X5:AO W5 g11 56 #[.int .i64 id,.int .i64 x0,.int .i64 y0]:=by rw[hW];exact AO.made aFq.symm _ _
  have X6:AO W5 (w.heap.size+1) 50 #[.int .i64 at_.x,.int .i64 at_.y]:=by rw[hW];exact X2.alloc _
  have Lm:=V (show AU w W5 by rw[hW];exact bA (J HB3.1 j.1) _);have HBg:=V (show AU w3 W5 by rw[hW];exact bA j.1 _);rw[<-hW];try rw[aFq]
  clear hW c0 c1 c2 hlb X2 BX Bf Bh j;obtain⟨CJ,CO,CQ,Gi,-⟩:=X5.BF;obtain⟨EW,EX,EY,-⟩:=X6.BL;by_cases s:(⟨x0,y0⟩:Pt)=at_
  .have hr:=V<|KI.1 s;have he1:x0=at_.x:=by rw[<-s]
   have he2:y0=at_.y:=by rw[<-s]
   subst he1 he2;go_upto_region 10 with fail;refine CZ W5 (.run 5 0 0<|.done) λCG QR Ae Aj hS=>?_;iterate 5 refine Ah ?_
   refine CX ?_;clear hS Aj Ae;intro U;go_wp2_with fail;exact bodyPost_ret (results_tmp3 rfl _ _ _) rfl ⟨by rw[hr.1];rfl,J Lm.1 U⟩
  have hne:¬(x0=at_.x/\y0=at_.y):=λe=>s (by rw[e.1,e.2]);have hr:=V<|JK.1 (by simpa using s);go_wp2_with fail;all_goals refine⟨⟨k+1,I,rfl,hr.1,HBg.1⟩,?_⟩;simp[intOf];omega
 obtain rfl:k=p.nodes.length:=I;have hnn:=Fz.1;rw[Gu]at hnn;have ZL:=V hnn;have HB4:=V<|J HB3.1 j.1;have X1:=DU.1.keep j.1;obtain⟨D7,Jc,wL,ajW⟩:=D9 (CW.1.keep j.1) (JD.1.mono j.1) (aBB.1.keep j.1)<|ak5.1.mono j.1;clear hnn Fz j HB3 DU CW JD aBB ak5 HLn;try clear Au Aw Az BA
 obtain⟨Au,Aw,Az,BA,-⟩:=X1.BF;go_upto_block 2 with fail;clear X1 Au Aw Az BA;go_wp2_with fail;go_loopw[46](λu wr=>∃k:Nat,k<=al.length/\u=.int .i64 k/\(p.AP.take k).find? (RG p at_)=none/\AU wo wr)λu _=>al.length-(intOf u).toNat;case atStart=>exact⟨0,C9 _,rfl,rfl,bR wo⟩
 obtain⟨k,hk,rfl,hno,hb⟩:=hrel;obtain⟨wq,rfl⟩:=BR wr;have Fz:=V hno;have j:=V hb;clear hno hb;by_cases hlt:k<al.length
 .have hkp:k<p.AP.length:=by rw[<-Nv.1];exact hlt
  have hax:p.AP[k]=al[k].1:=by
   have e:p.AP[k]?=some al[k].1:=by rw[Iy.1,List.getElem?_map,DK hlt];rfl
   rw[DK hkp]at e;exact Dn e
  have ham:p.AP[k]∈p.AP:=BG hkp;have hid:=HV.1.IB ham;have hlen:=En p p.AP[k];have Pv:=HV.1.Td ham;obtain⟨b,o,hA',hlb,c0,c1,c2,c3,c4,c5⟩:=(IU.1.mono<|J HB4.1 j.1).ar hlt;subst hA';have Jk:=V λs=>aC2.1 ZL.1 k hkp Fz.1 s;have N7:=V λhne=>aFo hkp Fz.1 hne;obtain⟨nm,hmp⟩:=(wL.1.keep j.1).mp;have NT:=(wL.1.keep j.1).rd _ ham;have hax':=hax;have hlk:∀W,AU wq W->_:=λW hW=>(hmp.keep hW).look p.AP[k].id<|L8 I I;have wM:=V hlk;rw[<-hax]at c0 c1 c2 c4 c5;unfold RG at Jk N7;generalize f p.AP[k].id=y at*;generalize AV p p.AP[k]=C at*;generalize p.AP[k]=ax at*;obtain⟨Av,cv,hva,-⟩:=ou.1 k hlt;rw[hva]at c3;generalize al[k].1.via.length=nv' at*;clear hva;obtain⟨ai,af,ad,av,af1,af2⟩:=ax;obtain⟨Ap,np,cp⟩:=y;unfold BO at hlk wM NT;have TI:=V NT;obtain⟨kK,cp',s,hp1,hp2,-⟩:=NT;injection s with y1 y2 y3;subst y1 y2 y3;unfold maxLen at hp2;simp only at hid hlen Pv c0 c1 c2 c3 c4 c5;have ajX:2<=C.length:=I;have hpl2:C.length<=66:=I;clear hax hax' ham hmp hlk hlen Pv;have qL:(k:Int)<al.length:=I;have qM:0<=(k:Int):=I;go_upto_region 15 with fail;obtain⟨W5,hW⟩:∃W:World,W=wq.alloc (.cells #[.int .i64 ai,.int .i64 af,.int .i64 ad,.slice Av nv' cv,.int .i64 af1,.int .i64 af2] 31):=⟨_,rfl⟩;obtain⟨g13,ajY⟩:=BM wq.heap.size;have X5:AO W5 g13 31 #[.int .i64 ai,.int .i64 af,.int .i64 ad,.slice Av nv' cv,.int .i64 af1,.int .i64 af2]:=by rw[hW];exact AO.made ajY.symm _ _
  have hA:AU wq W5:=by rw[hW];exact bA (bR wq) _
  obtain⟨Cb,eG,aFr,acs⟩:=D9 (J (J HB4.1 j.1) hA) (J j.1 hA) (D7.1.keep<|J j.1 hA) X5;have hlk:=wM.1 W5 hA;have ZN:=V<|TI.1.mono hA;rw[<-hW];try rw[ajY]
  clear hW hA c0 c1 c2 c3 c4 c5 hlb wM TI j;try clear CJ CO CQ Gi Vo tV tX
  obtain⟨CJ,CO,CQ,Gi,Vo,tV,tX,-⟩:=X5.J9;go_upto_block 4 with fail;clear X5 CJ CO CQ Gi Vo tV tX hlk;go_wp2_with fail;go_loopw[15](λu wr=>∃m:Nat,m+1<=C.length/\u=.int .i64 ((m:Int)+1)/\Uf C at_ m=false/\AU W5 wr)λu _=>C.length-(intOf u).toNat;case atStart=>exact⟨0,I,rfl,rfl,bR W5⟩
  obtain⟨m,hm,rfl,hnm,hb⟩:=hrel;obtain⟨wm,rfl⟩:=BR wr;have Ob:=V hnm;have OX:=V hb;clear hnm hb;by_cases hmt:m+1<C.length
  .obtain⟨kK,cp',s,-,-,Og⟩:=ZN.1.mono OX.1;injection s with y1 y2 y3;subst y1 y3;clear y2;obtain⟨bp,op,KJ,hlp,d0,d1⟩:=Og.pt (show m<C.length by omega);obtain⟨bp',op',JM,-,d2,d3⟩:=Og.pt hmt;rw[KJ]at JM;injection JM with JM;injection JM with q1 q2 _;subst q1 q2 KJ;have hoi:=aFl (v:=at_) hmt;generalize C[m+1]=pb at*;generalize C[m]=pa at*;obtain⟨xa,ya⟩:=pa;obtain⟨xb,yb⟩:=pb;simp only at d0 d1 d2 d3;have X6:=aFr.1.keep OX.1;have X7:=acs.1.keep OX.1;have Jg:=V X7;have hx6:=X6.lt;have hx7:=X7.lt;have aC5:(m:Int)+1<C.length:=I;have wO:0<=(m:Int):=I;have kk5:(m:Int)<C.length:=I;have kw:IntKind.i64.wrap (m:Int)=m:=Gz _ I;try clear EW EX EY
   obtain⟨EW,EX,EY,-⟩:=X6.BL;cases T:Eh ⟨xa,ya⟩ ⟨xb,yb⟩ at_ with|true=>
    have HO:=V λW=>II.1 ⟨xa,ya⟩ ⟨xb,yb⟩ W;rw[T]at HO;have aC6:Uf C at_ (C.length-1)=true:=ak2 (k:=m+1) I (by rw[aFm,hoi,T,Bool.or_true]);have hr:=V<|Jk.1 aC6;clear T hoi aC6 Jk N7;go_upto_region 19 with fail;refine CZ wm (.run 10 0 0<|.call 10 2047<|.done) λCG QR Ae Aj hS=>?_;iterate 10 refine Ah ?_
    refine FM (HO.1 _) ?_;clear hS;intro Bv Bj hS;refine CX ?_;clear hS Aj Ae;intro U;have EG:=V<|J (J Cb.1 OX.1) U;have X8:=Jg.1.keep U;clear X6 EW EX EY d0 d1 d2 d3 hlp U HO X7;obtain⟨Ox,Oy,Oz,aA9,X8d,X8e,X8f,-⟩:=X8.J9;go_upto_region 20 with fail;refine CZ Bv (.run 5 0 0<|.done) λCG QR Ae Aj hS=>?_;iterate 5 refine Ah ?_
    refine CX ?_;clear hS Aj Ae;intro U;go_wp2_with fail;exact bodyPost_ret (results_tmp3 rfl _ _ _) rfl ⟨by rw[hr.1];rfl,J EG.1 U⟩|false=>
    have HO:=V λW=>II.1 ⟨xa,ya⟩ ⟨xb,yb⟩ W;rw[T]at HO;have hr:=V (show Uf C at_ (m+1)=false by rw[aFm,hoi,T,Ob.1];rfl);clear T hoi Jk N7;go_upto_region 19 with fail;refine CZ wm (.run 10 0 0<|.call 10 2047<|.done) λCG QR Ae Aj hS=>?_;iterate 10 refine Ah ?_
    refine FM (HO.1 _) ?_;clear hS;intro Bv Bj hS;refine CX ?_;clear hS Aj Ae;intro U;have RI:=V<|J OX.1 U;clear X6 EW EX EY d0 d1 d2 d3 hlp U HO X7;go_wp2;go_roundw;case rel=>exact⟨m+1,I,BH,hr.1,RI.1⟩
    case measure=>exact BJ
  obtain rfl:m=C.length-1:=I;have hr:=V<|N7.1 Ob.1;have qN:=V<|J eG.1 OX.1;clear Jk N7 Ob II OX;go_wp2;go_roundw;case rel=>exact⟨k+1,I,BH,hr.1,qN.1⟩
  exact BJ
 obtain rfl:k=al.length:=I;have qO:=Fz.1;rw[Nv.1,Gu]at qO;have hr:=V<|aC3.1 ZL.1 qO;have eG:=V<|J HB4.1 j.1;have X6:=D7.1.keep j.1;have hA:=Jc.1.mono j.1;have hP:=wL.1.keep j.1;have hR:=ajW.1.mono j.1;have ajZ:=HD.1.len;obtain⟨bb,oo,aC7,hl9,-⟩:=hR.int (k:=0) (by rw[Vr];omega);subst aC7;have hF:∀W,AU wq W->Calls prog 87 #[.map<|some gm,.slice A ((BN p).length+1) c,.agg #[.int .i64 at_.x,.int .i64 at_.y]] W λe w'=>(∃i:Nat,e=.returned (.int .i64 i)/\(i:Int)<((BN p).length:Int)+1/\0<=(i:Int)/\wq.cell? ⟨bb,oo+i,none⟩=some (.int .i64<|JZ p<|F8 p at_))/\AU W w':=λW hW=>by
  have hA':=hA.mono hW;rw[<-ajZ]at*;refine(vX.1 W gm f (hP.keep hW) _ L hA'.read (λx hx d hd=>by
   rcases HD.1.aEU hx with e|e;.rw[e]at hd;cases hd
   exact(HV.1.Fv (Gl.1 e).1).2 d hd) I).mono ?_;rintro e w'⟨⟨i,rfl,hbx⟩,hb'⟩;obtain⟨hi,hh⟩:=HD.1.home rfl HT.1 hbx;obtain⟨bb',oo',aC7,hl9,hc9⟩:=hR.int (k:=i) (by rw[Vr];exact hi);injection aC7 with aC7;injection aC7 with q1 q2 _;subst q1 q2;refine⟨⟨i,rfl,I,I,?_⟩,hb'⟩;rw[hc9];congr 2;unfold PO;rw[Ib,List.getElem_range];unfold IJ;rw[hh]
 have HF:=V hF;clear qO hA hP hR hF ajZ Jc wL ajW Fz ZL aC3 aC2 II vX D7 j;try clear EW EX EY
 obtain⟨EW,EX,EY,-⟩:=X6.BL;go_upto_region 22 with fail;refine CZ wq (.run 4 0 0<|.call 4 31<|.run 5 5 31<|.done) λCG QR Ae Aj hS=>?_;iterate 4 refine Ah ?_
 refine BP ?_;clear hS;intro K hK AQ;go_simp;refine(HF.1 _ AQ.out).mono ?_;rintro e Bv⟨⟨ii,rfl,hi8,hi9,hc9⟩,Bj⟩;have hS:Since wq Bv:=J (w:=wq) AQ.out Bj;clear AQ;refine hK.out _ _ hS λ_=>?_;clear hK K;try simp only[pu]
 iterate 5 refine Ah ?_
 refine CX ?_;clear hS Aj Ae;intro U;go_wp2_with fail;exact bodyPost_ret (results_tmp3 rfl _ _ _) rfl ⟨by rw[hr.1];rfl,J eG.1 U⟩
theorem aja(v:Value)(p:Pl)(at_:Pt)(w:World)(h:Cj w v p):Calls prog 35 #[v,BD at_] w λe w'=>e=.returned (aC1<|RH p at_)/\AU w w':=by
 by_cases hv:Fa p=0;.cases hk:KC at_ with|true=>exact av8 v p at_ w h hv hk|false=>
   have e:RH p at_=(0,0,2):=by unfold RH;rw[AX<|by simpa using hv,AZ hk]
   rw[e];exact av7 v p at_ w h hv hk
 have e:RH p at_=(0,0,Fa p):=by unfold RH;rw[AZ hv]
 rw[e];exact av6 v p at_ w h hv
set_option linter.unusedSectionVars false
def Qd(p:Pl)(v:Pt):Int×Int:=match p.nodes.find? λn=>decide<|n.pt=v with|some n=>(1,n.id)|none=>match p.AP.find?<|RG p v with|some a=>(2,a.id)|none=>(0,JZ p<|F8 p v)
theorem av9{p:Pl}{v:Pt}(h0:Fa p=0)(h1:KC v=true):RH p v=((Qd p v).1,(Qd p v).2,0):=by unfold RH Qd;rw[AX ql,AX<|by simp[h1]];cases p.nodes.find? λn=>decide<|n.pt=v with|some n=>rfl|none=>simp only;cases p.AP.find?<|RG p v<;>rfl
def NW(y0 y1:Int)(i:Nat):Int:=if i%2=1 then(y0+y1)/2+((i:Int)+1)/2 else(y0+y1)/2-(i:Int)/2
def aC8(g:Int->Option Pt)(y0 y1:Int):Option Pt:=(List.range (y1-y0+3).toNat).findSome? λi=>g<|NW y0 y1 i
theorem eH{α:Type}(f:Nat->Option α)(n:Nat):(List.range<|n+1).findSome? f=((List.range n).findSome? f).or (f n):=by rw[aU,List.findSome?_append];simp
theorem avA(g:Int->Option Pt)(c j:Int)(T:c<=j)(C:∀y,y<c\/j<y->g y=none):(List.range (j-c+2).toNat).findSome? (λd:Nat=>(g<|(c+j)/2+d).or<|g<|(c+j)/2-d)=aC8 g c j:=by
 have o:∀n:Nat,(List.range<|n+1).findSome? (λd:Nat=>(g<|(c+j)/2+d).or<|g<|(c+j)/2-d)=(List.range<|2*n+1).findSome? λi=>g<|NW c j i:=λn=>by induction n with
  |zero=>
   show _=(List.range<|0+1).findSome? _;rw[eH,eH];have e:NW c j 0=(c+j)/2:=by unfold NW;rw[AX I];simp
   have s:(c+j)/2+((0:Nat):Int)=(c+j)/2:=I;have K:(c+j)/2-((0:Nat):Int)=(c+j)/2:=I;rw[e,s,K];cases g<|(c+j)/2<;>rfl|succ n z=>
   rw[eH,z,show 2*(n+1)+1=2*n+1+1+1 by omega,eH (n:=2*n+1+1),eH (n:=2*n+1)];have M:NW c j (2*n+1)=(c+j)/2+((n+1:Nat):Int):=by unfold NW;rw[AZ I];omega
   have s:NW c j (2*n+1+1)=(c+j)/2-((n+1:Nat):Int):=by unfold NW;rw[AX I];omega
   rw[M,s,Option.or_assoc]
 have far:∀k m:Nat,(j-c+3).toNat<=k->(List.range<|k+m).findSome? (λi=>g<|NW c j i)=(List.range k).findSome? λi=>g<|NW c j i:=λk m hk=>by induction m with|zero=>rfl|succ m z=>rw[<-Nat.add_assoc,eH,z];have e:g (NW c j<|k+m)=none:=C _ (by unfold NW;split<;>omega);rw[e,Option.or_none]
 obtain⟨n,hn⟩:∃n,(j-c+2).toNat=n+1:=⟨(j-c+1).toNat,I⟩;rw[hn,o n];unfold aC8;have e:2*n+1=(j-c+3).toNat+(2*n+1-(j-c+3).toNat):=I;rw[e];exact far _ _<|Dh _
theorem ajb:∀(l:List Pt)(x:Bx),let b:=l.foldl Ph x;(b.x0<=x.x0/\b.y0<=x.y0/\x.x1<=b.x1/\x.y1<=b.y1)/\(∀v∈l,b.x0<=v.x/\b.y0<=v.y/\v.x<=b.x1/\v.y<=b.y1)/\(b.x0=x.x0\/∃v∈l,b.x0=v.x)/\(b.y0=x.y0\/∃v∈l,b.y0=v.y)/\(b.x1=x.x1\/∃v∈l,b.x1=v.x)/\(b.y1=x.y1\/∃v∈l,b.y1=v.y)
 |[],x=>⟨⟨J8 _,J8 _,J8 _,J8 _⟩,λv hv=>(by cases hv),.inl rfl,.inl rfl,.inl rfl,.inl rfl⟩|v::l,x=>by
  have ih:=ajb l<|Ph x v;simp only[V8];generalize l.foldl Ph (Ph x v)=b at*;obtain⟨M,K,o,s,z,C⟩:=ih;unfold Ph at M o s z C;simp only at M o s z C;have T:b.x0<=x.x0/\b.x0<=v.x:=by clear K o s z C;omega
  have U:b.y0<=x.y0/\b.y0<=v.y:=by clear K o s z C;omega
  have j3:x.x1<=b.x1/\v.x<=b.x1:=by clear K o s z C;omega
  have j4:x.y1<=b.y1/\v.y<=b.y1:=by clear K o s z C;omega
  refine⟨⟨T.1,U.1,j3.1,j4.1⟩,λu j=>?_,?_,?_,?_,?_⟩
  .rcases Dv.1 j with rfl|j;.exact⟨T.2,U.2,j3.2,j4.2⟩
   exact K u j
  .clear K s z C;rcases o with e|⟨u,j,e⟩
   .rcases gJ x.x0 v.x with c|c;.exact .inl I
    exact .inr ⟨v,ED,I⟩
   exact .inr ⟨u,FW _ j,e⟩
  .clear K o z C;rcases s with e|⟨u,j,e⟩
   .rcases gJ x.y0 v.y with c|c;.exact .inl I
    exact .inr ⟨v,ED,I⟩
   exact .inr ⟨u,FW _ j,e⟩
  .clear K o s C;rcases z with e|⟨u,j,e⟩
   .rcases gJ x.x1 v.x with c|c;.exact .inr ⟨v,ED,I⟩
    exact .inl I
   exact .inr ⟨u,FW _ j,e⟩
  clear K o s z;rcases C with e|⟨u,j,e⟩
  .rcases gJ x.y1 v.y with c|c;.exact .inr ⟨v,ED,I⟩
   exact .inl I
  exact .inr ⟨u,FW _ j,e⟩
structure qP(b:Bx)(l:List Pt):Prop where
 all:∀v∈l,b.x0<=v.x/\b.y0<=v.y/\v.x<=b.x1/\v.y<=b.y1
 x0:∃v∈l,b.x0=v.x
 y0:∃v∈l,b.y0=v.y
 x1:∃v∈l,b.x1=v.x
 y1:∃v∈l,b.y1=v.y
theorem aFs{l:List Pt}(h:l≠[]):qP (NI l) l:=by cases l with|nil=>exact absurd rfl h|cons u l=>obtain⟨-,c,j,o,s,z⟩:=ajb (u::l) ⟨u.x,u.y,u.x,u.y⟩;exact⟨c,j.elim (λe=>⟨u,ED,e⟩) id,o.elim (λe=>⟨u,ED,e⟩) id,s.elim (λe=>⟨u,ED,e⟩) id,z.elim (λe=>⟨u,ED,e⟩) id⟩
theorem avC{b c:Bx}{l m:List Pt}(hb:qP b l)(s:qP c m)(h:∀v,v∈l↔v∈m):b.x0=c.x0/\b.y0=c.y0/\b.x1=c.x1/\b.y1=c.y1:=by obtain⟨j,⟨z,C,e1⟩,⟨K,M,e2⟩,⟨T,U,e3⟩,⟨u4,m4,e4⟩⟩:=hb;obtain⟨o,⟨v1,n1,f1⟩,⟨v2,n2,f2⟩,⟨v3,n3,f3⟩,⟨v4,n4,f4⟩⟩:=s;have a1:=o z<|(h _).1 C;have a2:=o K<|(h _).1 M;have a3:=o T<|(h _).1 U;have a4:=o u4<|(h _).1 m4;have d1:=j v1<|(h _).2 n1;have d2:=j v2<|(h _).2 n2;have d3:=j v3<|(h _).2 n3;have d4:=j v4<|(h _).2 n4;omega
theorem qP.le{b:Bx}{l:List Pt}(h:qP b l):b.x0<=b.x1/\b.y0<=b.y1:=by obtain⟨h0,⟨u,c,e⟩,-⟩:=h;have:=h0 u c;omega
theorem avD{P:List Pt}(h:2<=P.length)(v:Pt):v∈Kv (EO P)↔v∈P:=by
 unfold Kv;rw[Fj];constructor
 .rintro⟨q,o,hv⟩;unfold EO at o;obtain⟨k,hk,rfl⟩:=EP.1 o;rw[FC]at hk;have g:∀j,j<P.length->P.getD j AY∈P:=λj c=>by rw[G5,DK c];exact BG c
  simp only[Dv,ZF,or_false]at hv;rcases hv with rfl|rfl;.exact g k I
  exact g (k+1) I
 intro hv;obtain⟨j,c,rfl⟩:=Dy.1 hv;have g:∀j(c:j<P.length),P.getD j AY=P[j]:=λj c=>by rw[G5,DK c];rfl
 by_cases e:j+1<P.length;.refine⟨(P.getD j AY,P.getD (j+1) AY),?_,by show P[j]∈[P.getD j AY,P.getD (j+1) AY];rw[g j c];exact ED⟩;unfold EO;exact EP.2 ⟨j,FC.2 I,rfl⟩
 refine⟨(P.getD (j-1) AY,P.getD (j-1+1) AY),?_,?_⟩;.unfold EO;exact EP.2 ⟨j-1,FC.2 I,rfl⟩
 have:j-1+1=j:=I;show P[j]∈[P.getD (j-1) AY,P.getD (j-1+1) AY];rw[this,g j c];exact FW _ ED
theorem aeF(p:Pl)(d:Int)(v:Pt):v∈Iz p d↔v∈GL p d:=by
 unfold Iz;split;.exact Iff.rfl
 exact aCV
section
variable{p:Pl}(h:Valid p)
include h
theorem Valid.aFt{X:List Int}(c:∀d∈X,d∈BZ p)(v:Pt):v∈Kv (DV p X)↔v∈X.flatMap (Iz p):=by
 have e:v∈Kv (DV p X)↔∃d∈X,v∈Kv (EO<|GL p d):=by unfold Kv DV;rw[aa6,Fj]
 rw[e,Fj];refine exists_congr λd=>and_congr_right λhd=>?_;obtain⟨a,o,-,j⟩:=h.Ug<|c d hd;have s:=En p a;rw[avD<|by rw[j];omega,aeF]
theorem Valid.ajc{v:Pt}(s:Bl v=true){a:Ar}(o:a∈p.AP):RG p v a=true↔∃k,k+1<(AV p a).length/\Hw ((AV p a).getD k AY) ((AV p a).getD (k+1) AY) v:=by
 have g:∀j(z:j<(AV p a).length),(AV p a).getD j AY=(AV p a)[j]:=λj z=>by rw[G5,DK z];rfl
 unfold RG Uf;rw[PW];constructor;.rintro⟨k,hk,e⟩;have hk:=FC.1 hk;have c:k+1<(AV p a).length:=I;rw[aFl c]at e;refine⟨k,c,?_⟩;rw[g k I,g (k+1) c];exact(bM (h.Zu o<|BG _) (h.Zu o<|BG _) s).1 e
 rintro⟨k,hk,e⟩;refine⟨k,FC.2 I,?_⟩;rw[aFl hk];rw[g k I,g (k+1) hk]at e;exact(bM (h.Zu o<|BG _) (h.Zu o<|BG _) s).2 e
theorem Valid.avE{v:Pt}(j:Bl v=true):p.AP.find? (RG p v)=none↔¬aBL p v:=by
 rw[List.find?_eq_none];unfold aBL;constructor;.rintro g⟨a,c,e⟩;exact g a c<|(h.ajc j c).2 e
 intro g a c e;exact g ⟨a,c,(h.ajc j c).1 e⟩
omit h in theorem ajd{v:Pt}{X:List Int}(e:F8 p v=some X):X∈BN p:=(ZT _ _ e).1
omit h in theorem aue(hf:Ru p){X:List Int}(hX:X∈BN p){v:Pt}(e:JZ p (F8 p v)=JZ p (some X)):F8 p v=some X:=by cases c:F8 p v with|none=>rw[c]at e;exact absurd e.symm<|hf.some X hX|some Y=>
  rw[c]at e;have F:=ajd c;have hd:=hf.differ;unfold List.Nodup at hd;rw[H9,FT]at hd;obtain⟨i,hi,e1⟩:=Dy.1 hX;obtain⟨j,hj,e2⟩:=Dy.1 F;rcases Om i j with l|l|l;.exact absurd (by rw[e1,e2];exact e.symm)<|hd i j hi hj l
  .subst l;rw[<-e1,<-e2]
  .exact absurd (by rw[e1,e2];exact e)<|hd j i hj hi l
theorem Valid.aje(j:Ru p){X:List Int}(o:X∈BN p){v:Pt}(s:Bl v=true):Qd p v=(0,JZ p<|some X)↔vO p (some X) v:=by unfold Qd vO;rw[<-h.avE s];cases c:p.nodes.find? λn=>decide<|n.pt=v with
 |some n=>
  have hn:=Vz c;have z:n.pt=v:=by simpa using List.find?_some c
  exact⟨λe=>(by cases e),λe=>absurd z<|e.1 n hn⟩|none=>
  have hn:∀n∈p.nodes,n.pt≠v:=λn hn e=>by have:=(List.find?_eq_none.1 c) n hn;simp[e]at this
  simp only;cases c2:p.AP.find?<|RG p v with|some a=>exact⟨λe=>(by cases e),λe=>by cases e.2.1⟩|none=>
   simp only;constructor;.intro e;injection e with _ e;exact⟨hn,by trivial,aue j o e⟩
   .rintro⟨-,-,e⟩;rw[e]
omit h in theorem ZP{f:Int}{X:List Int}(e:SY p f=some X):X∈BN p/\JZ p (some X)=f:=⟨Vz e,eq_of_beq<|show(JZ p (some X)==f)=true from List.find?_some (p:=λX=>JZ p (some X)==f) e⟩
theorem Valid.ajf(s:Ru p){f:Int}:f∈p.faces↔∃X,SY p f=some X:=by
 have j:∀y∈(BN p).map λX=>Ej p<|X.headD 0,y∈p.faces:=λy C=>by
  obtain⟨X,o,rfl⟩:=EP.1 C;rcases h.aEW<|X.headD 0 with e|e;.exact absurd e<|s.some X o
  exact e
 constructor
 .intro hm;have:f∈(BN p).map λX=>Ej p<|X.headD 0:=Iq λc=>by
   have:=Wq (l:=f::(BN p).map λX=>Ej p<|X.headD 0) (m:=p.faces) (lD.2 ⟨c,s.differ⟩) (λx z=>by
    rcases Dv.1 z with rfl|z;.exact hm
    exact j x z);rw[Gy,D6,s.all]at this;omega
  obtain⟨X,o,e⟩:=EP.1 this;cases c:SY p f with|some Y=>exact⟨Y,rfl⟩|none=>exact absurd (beq_iff_eq.2<|show JZ p (some X)=f from e)<|List.find?_eq_none.1 c X o
 rintro⟨X,e⟩;obtain⟨o,rfl⟩:=ZP e;exact j _<|EP.2 ⟨X,o,rfl⟩
end
def rowP(p:Pl)(f y:Int):List Rn:=Gg (λx=>decide<|Qd p ⟨x,y⟩=(0,f))<|Ls p y
def XE(p:Pl)(f y0 y1 y:Int):Option Pt:=if y<y0\/y1<y then none else if(Jb<|rowP p f y).1.lo<(Jb<|rowP p f y).1.hi then some ⟨((Jb<|rowP p f y).1.lo+(Jb<|rowP p f y).1.hi-1)/2,y⟩else none
def aFA(p:Pl)(f:Int)(b:Bx):Option Pt:=aC8 (XE p f b.y0 b.y1) b.y0 b.y1
section
variable{p:Pl}(h:Valid p)
include h
theorem Valid.al2(s:Ru p){X:List Int}(c:X∈BN p)(j o y:Int):XE p (JZ p<|some X) j o y=midRow p (some X) j o y:=by
 unfold XE midRow;have e:(Jb<|rowP p (JZ p<|some X) y).1=Oh (Lr p (some X) y):=h.atn c λx z=>by rw[DI];exact h.aje s c z
 rw[e,(ajK<|Lr p (some X) y).2.2];split;.rfl
 split<;>rfl
theorem Valid.auf(z:Ru p){f:Int}{X:List Int}(C:SY p f=some X){b:Bx}{l:List Pt}(hb:qP b l)(K:∀v,v∈l↔v∈X.flatMap (Iz p)):aFA p f b=VH p f:=by
 obtain⟨j,M⟩:=ZP C;have o:=(Gl.1 j).1;have hd:=(h.Fv o).2;have c:Kv (DV p X)≠[]:=λe=>by obtain⟨v,hv,-⟩:=hb.x0;have:=(h.aFt hd v).2<|(K v).1 hv;rw[e]at this;cases this
 obtain⟨-,T,-,U⟩:=avC hb (aFs c) λv=>(K v).trans (h.aFt hd v).symm;have s:=(aFs c).le.2;unfold aFA VH;rw[C,T,U,<-avA _ _ _ s λy hy=>by unfold XE;rw[AZ hy]];simp only;unfold uf midD;congr 1;funext d;rw[<-M,h.al2 z j,h.al2 z j]
theorem Valid.aug{f:Int}{v:Pt}(hm:VH p f=some v):∃X,SY p f=some X/\vO p (some X) v/\KC v=true:=by unfold VH at hm;cases s:SY p f with|none=>rw[s]at hm;cases hm|some X=>
  rw[s]at hm;simp only at hm;obtain⟨z,he⟩:=ZP s;refine⟨X,rfl,?_⟩;have j:∀C K y,midRow p (some X) C K y=some v->C<=v.y/\v.y<=K/\Dt (Lr p (some X) v.y) v.x:=λC K y e=>by
   unfold midRow at e;split at e;.cases e
   rename_i c;rw[(ajK<|Lr p (some X) y).2.2]at e;split at e;.rename_i c2;injection e with e;subst e;have hm:=atb _ c2;exact⟨by simp only;omega,by simp only;omega,_,hm,by simp only;omega,by simp only;omega⟩
   cases e
  unfold uf at hm;obtain⟨d,-,e⟩:=List.exists_of_findSome?_eq_some hm;have hk:(NI<|Kv<|DV p X).y0<=v.y/\v.y<=(NI<|Kv<|DV p X).y1/\Dt (Lr p (some X) v.y) v.x:=by
   unfold midD at e;rcases Option.or_eq_some_iff.1 e with e|⟨-,e⟩;.exact j _ _ _ e
   exact j _ _ _ e
  obtain⟨k1,k2,M⟩:=hk;have T:∃a∈Ls p v.y,a<=v.x:=Iq λc=>h.ae8 z (λb hb=>aCd.1 λg=>c ⟨b,hb,g⟩) M;have U:∃a∈Ls p v.y,v.x<=a:=Iq λc=>h.ae7 z (λb hb=>aCd.1 λg=>c ⟨b,hb,g⟩) M;obtain⟨a,ha,ha'⟩:=T;obtain⟨b,hb,hb'⟩:=U;have g1:=(h.jh ha).2;have g2:=(h.jh hb).2;have o:KC v=true:=by unfold MN at g1 g2;unfold KC;simp only[EC,DI];simp only at g1 g2;omega
  exact⟨(h.aii z (x:=v.x) (y:=v.y)<|aEh o).1 M,o⟩
end
theorem aeG(x:Int):Di (-x)=Di x:=by unfold Di;split<;>split<;>omega
theorem auh(x y:Int):Qp (-x) (-y)=Qp x y:=by unfold Qp;rw[KQ];simp only[LW,EC,DI];omega
theorem aeH{x y:Int}(c:y≠0):Us x y=if Qp x y=true then if 0<Di x%Di y then-(Di x/Di y+1)else-(Di x/Di y)else Di x/Di y:=by
 unfold Us;by_cases h:0<y;.rw[AZ h,aai h,show Di y=y by unfold Di;rw[AX I]]
 rw[AX h,aai (x:=-x) (y:=-y) I,auh,aeG,show Di y=-y by unfold Di;rw[AZ I]]
theorem aui{x y:Int}(c:y≠0):XB x y=if Qp x y=true then-(Di x/Di y)else if 0<Di x%Di y then Di x/Di y+1 else Di x/Di y:=by
 unfold XB;rw[aeH c,aeG];by_cases h0:x=0;.subst h0;have e:Di 0=0:=rfl;rw[e,Int.zero_emod,Int.zero_ediv];simp
 have hm:Qp (-x) y=!Qp x y:=by unfold Qp;rw[KQ];simp only[LW,EC,DI,Rh,Rl,yE,IL];omega
 rw[hm];cases Qp x y;.simp only[aDw,if_true,O7,if_false];split<;>omega
 simp
theorem al3(x y:Int)(w:World)(h:JG x)(s:y≠0)(j:JG y):Calls prog 104 #[.int .i64 x,.int .i64 y] w λe w'=>e=.returned (.tuple #[.int .i64<|Us x y,.int .i64 0])/\AU w w':=by
 rw[aeH s];have z:=V λw=>abH x y w h s j;have C:=V λ(m:Bool)(n:Int)(w:World)h=>abI m n w h;have a1:=nS h;have U:=nS j;have M:0<Di y:=by unfold Di;split<;>omega
 obtain⟨d1,d2,d3,d4⟩:=aDU a1 M;have k0:(y==0)=false:=by rw[beq_eq_false_iff_ne];exact s
 generalize Di x/Di y=q at*;generalize Di x%Di y=r at*;generalize Qp x y=m at*;have k3:IntKind.u64.wrap (q+1)=q+1:=by rw[dM];omega
 have k4:(q+1)%18446744073709551616=q+1:=I;have o:=V (show 0<=q/\q<=2305843009213693952 by omega);have K:=V (show 0<=q+1/\q+1<=2305843009213693952 by omega);clear a1 U M d1 d2 d3 d4 h s j;cases m;.simp only[O7,if_false];go_enter func104,ntmps104;go_wp2_with fail;refine(z.1 _).mono ?_;rintro e w1⟨rfl,c⟩;go_wp2_with fail;refine(C.1 _ _ _ o.1).mono ?_;rintro e T⟨rfl,rfl⟩;go_wp2_with fail;go_ret2;exact⟨rfl,c⟩
 simp only[if_true];by_cases hr:0<r;.rw[AZ hr];go_enter func104,ntmps104;go_wp2_with fail;refine(z.1 _).mono ?_;rintro e w1⟨rfl,c⟩;go_wp2_with fail;refine(C.1 _ _ _ K.1).mono ?_;rintro e T⟨rfl,rfl⟩;go_wp2_with fail;go_ret2;exact⟨rfl,c⟩
 rw[AX hr];go_enter func104,ntmps104;go_wp2_with fail;refine(z.1 _).mono ?_;rintro e w1⟨rfl,c⟩;go_wp2_with fail;refine(C.1 _ _ _ o.1).mono ?_;rintro e T⟨rfl,rfl⟩;go_wp2_with fail;go_ret2;exact⟨rfl,c⟩
theorem auj(x y:Int)(w:World)(h:JG x)(s:y≠0)(j:JG y):Calls prog 255 #[.int .i64 x,.int .i64 y] w λe w'=>e=.returned (.tuple #[.int .i64<|XB x y,.int .i64 0])/\AU w w':=by
 rw[aui s];have z:=V λw=>abH x y w h s j;have C:=V λ(m:Bool)(n:Int)(w:World)h=>abI m n w h;have a1:=nS h;have U:=nS j;have M:0<Di y:=by unfold Di;split<;>omega
 obtain⟨d1,d2,d3,d4⟩:=aDU a1 M;have k0:(y==0)=false:=by rw[beq_eq_false_iff_ne];exact s
 generalize Di x/Di y=q at*;generalize Di x%Di y=r at*;generalize Qp x y=m at*;have k3:IntKind.u64.wrap (q+1)=q+1:=by rw[dM];omega
 have k4:(q+1)%18446744073709551616=q+1:=I;have o:=V (show 0<=q/\q<=2305843009213693952 by omega);have K:=V (show 0<=q+1/\q+1<=2305843009213693952 by omega);clear a1 U M d1 d2 d3 d4 h s j;cases m
 .simp only[O7,if_false];by_cases hr:0<r;.rw[AZ hr];go_enter func255,ntmps255;go_wp2_with fail;refine(z.1 _).mono ?_;rintro e w1⟨rfl,c⟩;go_wp2_with fail;refine(C.1 _ _ _ K.1).mono ?_;rintro e T⟨rfl,rfl⟩;go_wp2_with fail;go_ret2;exact⟨rfl,c⟩
  rw[AX hr];go_enter func255,ntmps255;go_wp2_with fail;refine(z.1 _).mono ?_;rintro e w1⟨rfl,c⟩;go_wp2_with fail;refine(C.1 _ _ _ o.1).mono ?_;rintro e T⟨rfl,rfl⟩;go_wp2_with fail;go_ret2;exact⟨rfl,c⟩
 simp only[if_true];go_enter func255,ntmps255;go_wp2_with fail;refine(z.1 _).mono ?_;rintro e w1⟨rfl,c⟩;go_wp2_with fail;refine(C.1 _ _ _ o.1).mono ?_;rintro e T⟨rfl,rfl⟩;go_wp2_with fail;go_ret2;exact⟨rfl,c⟩
theorem auk(c j:Int)(i:Nat)(w:World)(h0:-1073741824<=c/\c<=1073741824)(h1:-1073741824<=j/\j<=1073741824)(hi:i<=1000000000000):Calls prog 101 #[.int .i64 c,.int .i64 j,.int .i64 i] w λe w'=>e=.returned (.int .i64<|NW c j i)/\AU w w':=by
 have HF:=V λw=>anO (c+j) 2 w l7 I l7;have K:=DR<|c+j;have M:-1073741824<=(c+j)/2/\(c+j)/2<=1073741824:=I;obtain⟨R,o⟩:=BM<|NW c j i;rw[o];unfold NW at o;generalize(c+j)/2=m at*;have T:(i:Int).tmod 2=((i%2:Nat):Int):=by rw[aCO I];omega
 have U:(i:Int).tdiv 2=(i:Int)/2:=aDe I;have e3:((i:Int)+1).tdiv 2=((i:Int)+1)/2:=aDe I;have k3:=DR<|(i:Int)+1;by_cases h2:i%2=1
 .rw[AZ h2]at o;have z:=V o;have C:(((i%2:Nat):Int)==1)=true:=by simpa using(by omega:((i%2:Nat):Int)=1)
  clear o;go_enter func101,ntmps101;go_wp2_with fail;refine(HF.1 _).mono ?_;rintro e w1⟨rfl,s⟩;go_wp2;go_ret;exact⟨DZ z.1,s⟩
 rw[AX h2]at o;have z:=V o;have C:(((i%2:Nat):Int)==1)=false:=by rw[beq_eq_false_iff_ne];omega
 clear o;go_enter func101,ntmps101;go_wp2_with fail;refine(HF.1 _).mono ?_;rintro e w1⟨rfl,s⟩;go_wp2;go_ret;exact⟨DZ z.1,s⟩
theorem al4{x y:Int}(c:y≠0):-(Di x+1)<=Us x y/\Us x y<=Di x:=by
 rw[aeH c];have a1:0<=Di x:=by unfold Di;split<;>omega
 have j:0<Di y:=by unfold Di;split<;>omega
 have o:=aDd a1<|aS j;have s:=Int.ediv_le_self (Di y) a1;split;.split<;>omega
 omega
theorem aul{x y:Int}(c:y≠0):-Di x<=XB x y/\XB x y<=Di x+1:=by have h:=al4 (x:=-x) c;rw[aeG]at h;unfold XB;omega
theorem aum(a b:Pt)(y:Int)(w:World)(ha:lim a)(hb:lim b)(hy:-2097152<=y/\y<=2097152):Calls prog 213 #[BD a,BD b,.int .i64 y] w<|aB3 w<|KN y (a,b):=by
 obtain⟨a1,a2,a3,a4⟩:=ha;obtain⟨b1,b2,b3,b4⟩:=hb;unfold BD;obtain⟨m,hm⟩:=BM<|min a.y b.y;obtain⟨M,hM⟩:=BM<|max a.y b.y;by_cases h1:y<m
 .have c:KN y (a,b)=[]:=by unfold KN;rw[AZ<|.inl<|by rw[hm];exact h1]
  rw[c];go_enter func213,ntmps213;go_wp2;go_ret;exact⟨none,0,rfl,bA (bA (bR w) _) _,Sl.nil _⟩
 by_cases h2:M<y
 .have c:KN y (a,b)=[]:=by unfold KN;rw[AZ<|.inr<|by rw[hM];exact h2]
  rw[c];go_enter func213,ntmps213;go_wp2;go_ret;exact⟨none,0,rfl,bA (bA (bR w) _) _,Sl.nil _⟩
 by_cases h3:a.y=b.y
 .have c:KN y (a,b)=[a.x,b.x]:=by unfold KN;rw[AX<|by rw[hm,hM];rintro(h|h);exact h1 h;exact h2 h,AZ h3]
  have b3':(a.y==b.y)=true:=by simpa using h3
  rw[c];clear h3 c;go_enter func213,ntmps213;go_wp2;go_ret;exact⟨_,_,rfl,bA (bA (bA (bR w) _) _) _,Sl.lit (n:=2) (AO.made Ak _ _) rfl<|DC I⟩
 have c:KN y (a,b)=[a.x+Us ((y-a.y)*(b.x-a.x)) (b.y-a.y),a.x+XB ((y-a.y)*(b.x-a.x)) (b.y-a.y)]:=by unfold KN;rw[AX<|by rw[hm,hM];rintro(h|h);exact h1 h;exact h2 h,AX h3]
 have b3':(a.y==b.y)=false:=by simpa using h3
 rw[c];obtain⟨m1,m2⟩:=Rz (y-a.y) (b.x-a.x) 4194304 I I I I;simp only[Int.reduceMul,Int.reduceNeg]at m1 m2;obtain⟨n,hn⟩:=BM<|(y-a.y)*(b.x-a.x);rw[hn]at m1 m2⊢;have hd:b.y-a.y≠0:=I;have HF:=V λW=>al3 n (b.y-a.y) W l7 hd l7;have HC:=V λW=>auj n (b.y-a.y) W l7 hd l7;have f1:=al4 (x:=n) hd;have f2:=aul (x:=n) hd;have f3:Di n<=17592186044416:=by unfold Di;split<;>omega
 generalize Us n (b.y-a.y)=fq at*;generalize XB n (b.y-a.y)=cq at*;have w1:=DR<|a.x+fq;have w2:=DR<|a.x+cq;have w3:=DR<|y-a.y;have w4:=DR<|b.x-a.x;have w5:=DR<|b.y-a.y;have w6:IntKind.i64.wrap n=n:=Gz _ I;clear c f1 f2 f3 m1 m2 hd h3;go_enter func213,ntmps213;go_upto_region 5 with fail;obtain⟨W1,U⟩:∃W:World,W=(w.alloc<|.cells #[.int .i64 a.x,.int .i64 a.y] 50).alloc (.cells #[.int .i64 b.x,.int .i64 b.y] 50):=⟨_,rfl⟩;have j:AO W1 w.heap.size 50 #[.int .i64 a.x,.int .i64 a.y]:=by rw[U];exact(AO.made rfl _ _).alloc _
 have z:AO W1 (w.heap.size+1) 50 #[.int .i64 b.x,.int .i64 b.y]:=by rw[U];exact AO.made Ak _ _
 have HB1:=V (show AU w W1 by rw[U];exact bA (bA (bR w) _) _);rw[<-U];clear U;have FN:=V j;have D7:=V z;obtain⟨C,K,T,-⟩:=j.BL;obtain⟨Bg,Bq,CP,-⟩:=z.BL;go_wp2_with fail;refine(HF.1 _).mono ?_;rintro e w2⟨rfl,hb2⟩;obtain⟨HB2,o,qQ⟩:=CB (J HB1.1 hb2) (FN.1.keep hb2)<|D7.1.keep hb2;clear hb2 j C K T z Bg Bq CP FN D7 HB1 HF;have j:=o.1;have z:=qQ.1;try clear C K T
 obtain⟨C,K,T,-⟩:=j.BL;try clear Bg Bq CP
 obtain⟨Bg,Bq,CP,-⟩:=z.BL;go_wp2_with fail;refine(HC.1 _).mono ?_;rintro e w3⟨rfl,s⟩;have HB3:=V<|J HB2.1 s;replace j:=o.1.keep s;clear s C K T z Bg Bq CP o qQ HB2 HC;try clear C K T
 obtain⟨C,K,T,-⟩:=j.BL;go_wp2;go_ret;exact⟨_,_,rfl,bA HB3.1 _,Sl.lit (n:=2) (AO.made rfl _ _) rfl<|DC I⟩
