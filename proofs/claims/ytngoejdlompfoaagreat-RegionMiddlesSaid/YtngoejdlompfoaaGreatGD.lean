import Derived.Test.YtngoejdlompfoaaGreatGC
set_option linter.unusedSimpArgs false
set_option linter.unusedVariables false
set_option maxRecDepth 100000
set_option maxHeartbeats 1000000
namespace Go.Proofs.YtngoejdlompfoaaGreat
open Go.RowKit Tryz
def Vh(l:List Pt):Bool:=(List.range l.length).any λi=>(l.take i).any λp=>decide<|l[i]?=some p
theorem aaw(l:List Pt)(i k:Nat)(hk:k<i)(hi:i<l.length)(h:l[i]=l[k]'(by omega)):Vh l=true:=by
 unfold Vh;refine PW.2 ⟨i,FC.2 hi,PW.2 ⟨l[k]'(by omega),?_,?_⟩⟩;.rw[Dy];exact⟨k,xW,Ak⟩
 rw[DK hi,h];simp
theorem aax(l:List Pt)(h:∀i k(hk:k<i)(hi:i<l.length),¬l[i]=l[k]'(by omega)):Vh l=false:=by unfold Vh;rw[Xg];intro i hi;have hi:=FC.1 hi;simp only[Je];rw[Xg];intro p c;obtain⟨k,hk,rfl⟩:=Dy.1 c;rw[JF]at hk;have:=h i k I hi;rw[DK hi];simpa using this
theorem aok(v:Value)(p:Pl)(w:World)(h:Cj w v p):Calls prog 140 #[v] w λe w'=>e=.returned (.bool (Vh (p.nodes.map (·.pt))))/\AU w w':=by
 obtain⟨_,va,vf,al,rfl,hpa,⟨An,cn,rfl,hn1,hn2,hR⟩,-⟩:=h;unfold maxLen at hn2;generalize p.nodes=l at*;clear hpa;obtain⟨q,hq⟩:=BM (Vh (l.map (·.pt)));rw[hq];have Hq:=V hq;clear hq;have HR:=V hR;clear hR;go_enter func140,ntmps140;go_wp2_with fail;obtain⟨C,z⟩:=BR<|w.alloc<|.cells #[.slice An l.length cn,va,vf] 26;have K:AO C w.heap.size 26 #[.slice An l.length cn,va,vf]:=by rw[z];exact AO.made rfl _ _
 have GI:AU w C:=by rw[z];exact bA (bR w) _
 rw[<-z];have M:=V K;clear z K;go_loopw[3](λs wr=>∃i:Nat,i<=l.length/\s=.int .i64 i/\AU C wr/\∀j k(hk:k<j)(T:j<l.length),j<i->¬l[j].pt=l[k].pt)λs _=>l.length-(intOf s).toNat;case atStart=>exact⟨0,C9 _,rfl,bR C,λ_ _ _ _ h=>I⟩
 obtain⟨i,hi,rfl,hb,U⟩:=hrel;have Hb:=V hb;have Hno:=V U;have K:=M.1.keep hb;clear hb U;obtain⟨Au,Aw,Az,BA,-⟩:=K.BF;by_cases hlt:i<l.length
 .go_wp2_with fail;obtain⟨wo,rfl⟩:=BR wr;clear K Au Aw Az BA;go_loopw[4](λs wr=>∃k:Nat,k<=i/\s=.int .i64 k/\AU C wr/\∀m(hm:m<l.length),m<k->¬l[i].pt=l[m].pt)λs _=>i-(intOf s).toNat;case atStart=>exact⟨0,C9 _,rfl,Hb.1,λ_ _ h=>I⟩
  obtain⟨k,hk,rfl,hb,Xo⟩:=hrel;have c:=V hb;have UF:=V Xo;have K:=M.1.keep hb;clear hb Xo;by_cases hlk:k<i
  .have hkl:k<l.length:=I;obtain⟨b,o,rfl,hlb,c0,c1,c2⟩:=(HR.1.mono<|J GI c.1).nd hlt;obtain⟨b',o',e,Po,d0,d1,d2⟩:=(HR.1.mono<|J GI c.1).nd hkl;simp only[JU,Addr.mk.injEq,and_true]at e;obtain⟨rfl,rfl⟩:=e;try clear Au Aw Az BA
   obtain⟨Au,Aw,Az,BA,-⟩:=K.BF;have q1:0<=(k:Int):=I;have q2:(k:Int)<l.length:=I;have q3:0<=(i:Int):=I;have q4:(i:Int)<l.length:=I;have hE:=Vd l[i].pt l[k].pt;by_cases he:l[i].pt=l[k].pt
   .have hd:decide (l[i].pt=l[k].pt)=true:=Ia he;have hf:=V (aaw (l.map (·.pt)) i k hlk (by simpa using hlt)<|by simpa using he);clear he;go_upto_region 7 with fail;refine CZ wr (.run 13 0 0<|.done) λCG QR Ae Aj hS=>?_;iterate 13 refine Ah ?_
    refine CX ?_;clear hS Aj Ae;intro hB;have Bw:AU C wr.drew:=J c.1 hB;clear hB;go_wp2;go_ret;exact⟨Cm<|hf.1.symm.trans Hq.1,J GI Bw⟩
   have hd:decide (l[i].pt=l[k].pt)=false:=GX he;have He:=V he;clear he;go_upto_region 7 with fail;refine CZ wr (.run 13 0 0<|.done) λCG QR Ae Aj hS=>?_;iterate 13 refine Ah ?_
   refine CX ?_;clear hS Aj Ae;intro hB;have Bw:AU C wr.drew:=J c.1 hB;clear hB;go_wp2;go_roundw;case rel=>exact⟨k+1,I,BH,Bw,λm hm hmk=>if e:m<k then UF.1 m hm e else by have:m=k:=I;subst this;exact He.1⟩
   exact BJ
  go_wp2;go_roundw;case rel=>exact⟨i+1,I,BH,c.1,λj m hm T hji=>if e:j<i then Hno.1 j m hm T e else by have:j=i:=I;subst this;exact UF.1 m I I⟩
  exact BJ
 have hf:=V (aax (l.map (·.pt)) λj m hm T=>by have:=Hno.1 j m hm (by simpa using T) (by rw[D6]at T;omega);simpa using this);go_wp2;go_ret;exact⟨Cm<|hf.1.symm.trans Hq.1,J GI Hb.1⟩
theorem aay(v:Value)(l:List Int)(w:World)(h:Ints w v l):Calls prog 137 #[v] w λe w'=>e=.returned (.bool<|QS l)/\AU w w':=by
 obtain⟨A,c,rfl,hn,hc,M⟩:=h;unfold maxLen at hc;go_enter func137,ntmps137;go_wp2_with fail;go_loopw[3](λi wr=>∃m:Nat,i=.int .i64 ((m:Int)+1)/\(m=0\/m+1<=l.length)/\AU w wr/\∀j(C:j+1<l.length),j<m->l[j]<l[j+1])λi _=>l.length+1-(intOf i).toNat;case atStart=>exact⟨0,rfl,.inl rfl,bR w,λj _ h=>I⟩
 obtain⟨m,rfl,hm,hb,s⟩:=hrel;have K:=V hb;have z:=V s;clear hb s;by_cases hlt:m+1<l.length
 .obtain⟨b,o,rfl,hlb,c1⟩:=(M.mono K.1).int hlt;obtain⟨b',o',e,Po,c0⟩:=(M.mono K.1).int (show m<l.length by omega);simp only[JU,Addr.mk.injEq,and_true]at e;obtain⟨rfl,rfl⟩:=e;clear M hm;have q1:IntKind.i64.wrap (m:Int)=m:=Gz _ I;have q2:0<=(m:Int):=I;have q3:(m:Int)<l.length:=I;have q4:(m:Int)+1<l.length:=I;have q5:0<=(m:Int)+1:=I;have q6:((m:Int)+1).toNat=m+1:=I;go_upto_region 4 with fail;refine CZ wr (.run 10 0 0<|.done) λCG QR Ae Aj hS=>?_;iterate 10 refine Ah ?_
  refine CX ?_;clear hS Aj Ae;intro U;have Bw:AU w wr.drew:=J K.1 U;clear U;by_cases hlt2:l[m]<l[m+1]
  .go_wp2;go_roundw;case rel=>exact⟨m+1,BH,.inr I,Bw,λj C hjm=>if e:j<m then z.1 j C e else by have:j=m:=I;subst this;exact hlt2⟩
   exact BJ
  have T:=V<|ag4 l m hlt hlt2;go_wp2;go_ret;exact⟨Cm T.1.symm,Bw⟩
 have T:=V<|ael l λj C=>z.1 j C I;go_wp2;go_ret;exact⟨Cm T.1.symm,K.1⟩
def Zo(l:List Pt)(p:Pt):Nat:=(l.filter λq=>decide<|q=p).length
def Ou(p:Pl):Bool:=!((p.nodes.map (·.id)++p.AP.map (·.id)++p.faces).any LJ)&&(Vg p).all KC
theorem aol(v:Value)(p:Pl)(w:World)(h:Cj w v p)(hl1:p.nodes.length<=4096)(hl2:p.AP.length<=4096)(hl3:p.faces.length<=4096)(hl4:(p.AP.flatMap (·.via)).length<=1048576):Calls prog 139 #[v] w λe w'=>e=.returned (.bool<|Ou p)/\AU w w':=by
 have HP:=V h;obtain⟨vn,va,vf,al,rfl,hpa,-,-,hF⟩:=h;have HF:=V hF;clear hF hpa;obtain⟨q,hq⟩:=BM<|Ou p;rw[hq];have Hq:=V hq;clear hq;go_enter func139,ntmps139;go_upto_region 1 with fail;obtain⟨C,hW0⟩:=BR<|w.alloc<|.cells #[vn,va,vf] 26;have X1:AO C w.heap.size 26 #[vn,va,vf]:=by rw[hW0];exact AO.made rfl _ _
 have GI:AU w C:=by rw[hW0];exact bA (bR w) _
 rw[<-hW0];clear hW0;obtain⟨Au,Aw,Az,BA,-⟩:=X1.BF;have HL:=V (show(p.nodes.map (·.id)).length=p.nodes.length/\(p.AP.map (·.id)).length=p.AP.length from⟨D6 _,D6 _⟩);go_cut[3](λs wx=>Own wx w.heap.size 3 1 DF s (p.nodes.map (·.id)++p.AP.map (·.id)++p.faces)/\AU C wx);case first=>
  refine CZ C (.take 0 1<|.take 2 5<|.take 5 37<|.take 6 101<|.call 1 103<|.call 3 111<|.call 4 127<|.call 7 255<|.take 8 511<|.done) λCG QR Ae Aj hS=>?_;iterate 4 refine Ah ?_
  refine BP ?_;clear hS;intro K hK AQ;go_simp;refine(ag8 _ p _ (HP.1.mono<|J GI AQ.out) I).mono ?_;rintro e Bv⟨v1,rfl,Bj,ho1⟩;have hS:Since C Bv:=J (w:=C) AQ.out Bj;clear AQ;refine hK.out _ _ hS λ_=>?_;clear hK K;try simp only[pu]
  refine BP ?_;clear hS;intro K hK AQ;go_simp;refine(ag9 _ p _ (HP.1.mono<|J GI AQ.out) I).mono ?_;rintro e wr2⟨v2,rfl,F5,ho2⟩;have hS:Since C wr2:=J (w:=C) AQ.out F5;clear AQ;refine hK.out _ _ hS λ_=>?_;clear hK K;try simp only[pu]
  refine BP ?_;clear hS;intro K hK AQ;refine Ir (.tmp 8) (.tmp 10) _ rfl (base:=C.heap.size) J3 IV J4 rfl ((ho1.keep F5).EN Ak) rfl (Own.sl ho2) (by have:=HL.1;omega) (by have:=HL.1;omega) (Below.size AQ.out) ?_;intro v3 wr3 ho3 hg hat;have hS:Since C wr3:=bG (w:=C) AQ.out hg λg hk=>((ho1.EN (b':=C.heap.size) Ak).lt g hk).1;clear AQ;refine hK.out _ _ hS λ_=>?_;clear hK K;try simp only[pu]
  refine BP ?_;clear hS;intro K hK AQ;refine Ir (.tmp 11) (.tmp 13) _ rfl (base:=C.heap.size) J3 IV J4 rfl ho3 rfl (HF.1.mono<|J GI AQ.out) (by have:=HL.1;simp only[EK];omega) (by have:=HL.1;simp only[EK];omega) (Below.size AQ.out) ?_;intro v4 wr4 KY hg4 iT;have hS:Since C wr4:=bG (w:=C) AQ.out hg4 λg hk=>(ho3.lt g hk).1;clear AQ;refine hK.out _ _ hS λ_=>?_;clear hK K;try simp only[pu]
  refine Ah ?_;refine CX ?_;clear hS Aj Ae;intro hB;go_wp2;go_meet;exact⟨KY.EN GI.size,hB⟩
 obtain⟨z,hBo⟩:=hcut;have X0:=X1.keep hBo;have HX0:=V X0;have sF:=J GI hBo;have hsl:=Own.sl z;generalize hLL:p.nodes.map (·.id)++p.AP.map (·.id)++p.faces=M at*;have HLL:=V hLL;obtain⟨A,c,rfl,hn,hc,hR⟩:=hsl;unfold maxLen at hc;have HR:=V hR;clear hR z X1 Au Aw Az BA hLL hBo X0;go_wp2_with fail;go_loopw[4](λi wr=>∃k:Nat,k<=M.length/\i=.int .i64 k/\AU wc wr/\∀j(hj:j<M.length),j<k->LJ M[j]=false)λi _=>M.length-(intOf i).toNat;case atStart=>exact⟨0,C9 _,rfl,bR wc,λj _ h=>I⟩
 obtain⟨k,hk,rfl,hb,T⟩:=hrel;have Hb:=V hb;have Hno:=V T;clear hb T;by_cases hlt:k<M.length
 .obtain⟨b,o,rfl,hlb,c0⟩:=(HR.1.mono Hb.1).int hlt;by_cases h1:M[k]<1;.have hf:=V<|UE M LJ k hlt (by simp[LJ,h1]);go_wp2;go_ret;exact⟨Cm<|by rw[<-Hq.1,Ou,HLL.1,hf.1];rfl,J sF Hb.1⟩
  by_cases h2:1073741824<M[k];.have hf:=V<|UE M LJ k hlt (by simp[LJ,h2]);go_wp2;go_ret;exact⟨Cm<|by rw[<-Hq.1,Ou,HLL.1,hf.1];rfl,J sF Hb.1⟩
  have hg:=V (show LJ M[k]=false by simp[LJ,h1,h2]);go_wp2;go_roundw;case rel=>exact⟨k+1,I,BH,Hb.1,all_succ (p:=λy=>LJ y=false) Hno.1 hlt hg.1⟩
  exact BJ
 have hf:=V<|Vf M LJ<|λj hj=>Hno.1 j hj I;have X1:=HX0.1.keep Hb.1;try clear Au Aw Az BA
 obtain⟨Au,Aw,Az,BA,-⟩:=X1.BF;go_wp2_with fail;refine(aoj _ p _ (HP.1.mono<|J sF Hb.1) I hl4).mono ?_;rintro e w1⟨v1,rfl,hb1,z⟩;have Nl:=J (J sF Hb.1) hb1;obtain⟨A1,KX,rfl,hn1,hc1,hR1⟩:=Own.sl z;unfold maxLen at hc1;have HR1:=V hR1;generalize aA7:Vg p=PP at*;have aA8:=V aA7;clear hR1 z hb1 Au Aw Az BA hlt aA7;go_wp2_with fail;go_loopw[6](λi wr=>∃k:Nat,k<=PP.length/\i=.int .i64 k/\AU w1 wr/\∀j(hj:j<PP.length),j<k->KC PP[j]=true)λi _=>PP.length-(intOf i).toNat;case atStart=>exact⟨0,C9 _,rfl,bR w1,λj _ h=>I⟩
 obtain⟨k,hk,rfl,hb,T⟩:=hrel;have Hb2:=V hb;have UF:=V T;clear hb T;by_cases hlt:k<PP.length
 .obtain⟨b,o,rfl,hlb,c0,c1⟩:=(HR1.1.mono Hb2.1).pt hlt;go_wp2_with fail;refine(aob PP[k] _).mono ?_;rintro e w2⟨rfl,hb2⟩;have Bw2:AU w1 w2:=J Hb2.1 hb2;clear hb2 c0 c1;cases hv:KC PP[k];.have U:PP.all KC=false:=aT.2 ⟨PP[k],BG hlt,by simp[hv]⟩;have Hf2:=V U;clear U;go_wp2;go_ret;exact⟨Cm<|by rw[<-Hq.1,Ou,aA8.1,Hf2.1,Bool.and_false],J Nl Bw2⟩
  go_wp2;go_roundw;case rel=>exact⟨k+1,I,BH,Bw2,all_succ (p:=λy=>KC y=true) UF.1 hlt hv⟩
  exact BJ
 have U:PP.all KC=true:=KO.2 λx hx=>by obtain⟨i,hi,rfl⟩:=Dy.1 hx;exact UF.1 i hi I
 have Hf2:=V U;clear U;go_wp2;go_ret;exact⟨Cm<|by rw[<-Hq.1,Ou,aA8.1,Hf2.1,HLL.1,hf.1];rfl,J Nl Hb2.1⟩
