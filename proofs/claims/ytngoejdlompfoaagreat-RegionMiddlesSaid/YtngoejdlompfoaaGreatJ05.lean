import Derived.Lib.AppendZerosOnto
import Derived.Test.YtngoejdlompfoaaGreatJ04
set_option linter.unusedSimpArgs false
set_option linter.unusedVariables false
set_option maxRecDepth 100000
set_option maxHeartbeats 4000000
namespace Go.Proofs.YtngoejdlompfoaaGreat
open Go.RowKit Tryz
theorem aoD:∃i,prog.info? 50=some i/\i.zero=some (.agg #[.int .i64 0,.int .i64 0])/\i.size=2/\i.bytes=16:=info_parts IK
theorem aoE(n:Nat)(w:World)(h1:1<=n)(h2:n<=2097152):Calls prog 152 #[.slice none 0 0,.int .i64 n] w λe w'=>∃c,e=.returned (.slice (some ⟨w.heap.size,0,none⟩) 0 c)/\AU w w'/\Own w' w.heap.size 50 2 Ep (.slice (some ⟨w.heap.size,0,none⟩) 0 c) []:=by
 obtain⟨i,hi,C,T,hb⟩:=aoD;have K:∀s,(Builtin.append_ #[29,3] s #[.slice none 0 0,.int .i64 n]).run prog w=_:=λs=>Lib.run_append_grow_zeros w 29 3 s 50 i _ .i64 .i64 Tryz.underlying29 Tryz.underlying3 hi C none 0 0 [] (by simpa using run_firstCells_none (P:=prog) (w:=w.drew) i.size 0 0 0) n I I I I (by rw[hb];omega)
   (by rw[hb];exact growslice_fits I I);have U:=grownCap_ge w (0+n) 0 50;have j:=grownCap_le_maxLen w (0+n) 0 50 xY;have o:=j;unfold maxLen at o;generalize hG:grownCap w (0+n) 0 50=G at*;have M:=V K;have z:=V j;clear K hG j hi C T hb;simp only[Rk]at M;have q1:¬(n:Int)<0:=I;have q2:0<(n:Int):=I;go_enter func152,ntmps152;go_wp2_with(at_builtin;refine Lib.wpList_append_run _ rfl _ _ _ _ rfl _ _ rfl rfl _ _ (M.1 _) ?_);go_ret;refine⟨_,rfl,bA (bD<|bR w) _,?_⟩;refine⟨rfl,.inr ⟨w.heap.size,_,_,rfl,Dh _,heap_alloc_new _ _,C9 _,z.1,?_,Ak⟩⟩;simp only[Array.size_append,List.size_toArray,Nb,size_zeroCells];simp only[Value.cells,List.size_toArray,Gy,Nb];omega
structure PS where
 l:List Pt
 a:Option Addr
 c:Nat
def psC(x:PS):List Value:=[.slice x.a x.l.length x.c]
theorem Row.ps{w:World}{A:Option Addr}{l:List PS}(h:Row w A<|l.flatMap psC){k:Nat}(hk:k<l.length):∃b o,A=some ⟨b,o,none⟩/\b<w.heap.size/\w.cell? ⟨b,o+k,none⟩=some (.slice l[k].a l[k].l.length l[k].c):=by obtain⟨b,o,j,hb,s⟩:=h.at_ (n:=1) (λ_=>rfl) hk I;exact⟨b,o,j,hb,by simpa using s 0 _ rfl⟩
def iC(L:List PS)(k:Nat):Nat:=((L.take k).flatMap (·.l)).length
theorem agK(L:List PS)(k:Nat)(hk:k<L.length):iC L (k+1)=iC L k+L[k].l.length:=by unfold iC;rw[Eu hk,LY,EK];simp
theorem aoF(v:Value)(L:List PS)(w:World)(hv:Sl w v L.length<|L.flatMap psC)(hp:∀k(hk:k<L.length),EL w (.slice L[k].a L[k].l.length L[k].c) L[k].l)(hL:L.length<=1048576)(h1:1<=(L.flatMap (·.l)).length)(h2:(L.flatMap (·.l)).length<=2097152):Calls prog 91 #[v] w (ag6 w (L.flatMap (·.l))):=by
 obtain⟨A,c,rfl,hn,hc,hR⟩:=hv;unfold maxLen at hc;have HP:=V hp;clear hp;have HR:=V hR;clear hR;have hb:∀k,iC L k<=2097152:=λk=>Du (aCx L (·.l) k) h2;have KZ:=V hb;clear hb;have H1:=V h1;have H2:=V h2;clear h1 h2;go_enter func91,ntmps91;go_wp2_with fail;go_loopw[3,11](λs i wr=>∃k:Nat,k<=L.length/\i=.int .i64 k/\s=.int .i64 (iC L k:Nat)/\wr=w)λ_ i _=>L.length-(intOf i).toNat;case atStart=>exact⟨0,C9 _,rfl,rfl,rfl⟩
 obtain⟨k,hk,rfl,rfl,rfl⟩:=hrel;by_cases hlt:k<L.length;case pos=>
  obtain⟨b,o,rfl,hlb,c0⟩:=HR.1.ps hlt;have ht:=agK L k hlt;have hb:=KZ.1<|k+1;have Ht:=V ht;rw[ht]at hb;clear ht;go_wp2;go_roundw;case rel=>exact⟨k+1,I,BH,by rw[Ht.1];go_num,trivial⟩
  exact BJ
 have M:L.take k=L:=Ip I;have T:iC L k=(L.flatMap (·.l)).length:=by unfold iC;rw[M]
 rw[T];have h1:=H1.1;have h2:=H2.1;clear M T;generalize hN:(L.flatMap (·.l)).length=N at*;clear hN;go_wp2_with fail;refine(aoE N _ h1 h2).mono ?_;rintro e w1⟨c1,rfl,U,j⟩;have K:=V j;have Hb1:=V U;clear j U h1 h2;obtain⟨wo,rfl⟩:=BR wr;go_wp2_with fail;go_loopw[6,27](λs i wr=>∃k:Nat,k<=L.length/\i=.int .i64 k/\Own wr wo.heap.size 50 2 Ep s ((L.take k).flatMap (·.l))/\AU wo wr)λ_ i _=>L.length-(intOf i).toNat;case atStart=>exact⟨0,C9 _,rfl,K.1,Hb1.1⟩
 obtain⟨k,hk,rfl,j,hb⟩:=hrel;have Hb:=V hb;replace K:=V j;have hsz:=hb.size;clear hb j;by_cases hlt:k<L.length;case neg=>have M:L.take k=L:=Ip I;have ho:=K.1;rw[M]at ho;replace K:=V ho;clear ho M;go_wp2;go_ret;exact⟨_,rfl,Hb.1,K.1⟩
 obtain⟨b,o,rfl,hlb,c0⟩:=(HR.1.mono Hb.1).ps hlt;have C:=V (show((L.take k).flatMap (·.l)).length+L[k].l.length<=2097152 by have ht:=agK L k hlt;have:=KZ.1<|k+1;show iC L k+L[k].l.length<=2097152;omega);go_wp2_with(at_builtin;refine FV _ rfl (.tmp 31) (.tmp 32) _ rfl (base:=wo.heap.size) LZ LK La rfl K.1 rfl (l2:=L[k].l) ((HP.1 k hlt).mono Hb.1) (by have:=C.1;omega) (by have:=C.1;omega) hsz ?_;intro v1 w1 z hg hat;have Nl:=V<|show AU wo w1 from bG Hb.1 hg<|λg hk=>(K.1.lt g hk).1;clear hg hat;have ZH:=V z;clear z);go_roundw;case rel=>exact⟨k+1,I,BH,by rw[Eu hlt,LY];simpa using ZH.1,Nl.1⟩
 exact BJ
theorem aD1(v:Value)(p:Pl)(id:Int)(w:World)(h:Cj w v p)(hsh:Short p):Calls prog 38 #[v,.int .i64 id] w<|ng w<|pathOf p id:=by
 have HP:=V h;have DN:=V hsh;clear hsh;obtain⟨vn,vr,vf,al,rfl,-⟩:=h;have TN:∀id W,AU w W->Calls prog 90 #[.agg #[vn,vr,vf],.int .i64 id] W _:=λid W hW=>aad _ p id W<|HP.1.mono hW;simp only[nV,yX]at TN;have HN:=V TN;clear TN;obtain⟨q,hq⟩:=BM<|pathOf p id;rw[hq];have Hq:=V hq;clear hq;go_enter func38,ntmps38;go_wp2_with fail;refine(anK _ p id _ (HP.1.mono<|bA (bR w) _) DN.1).mono ?_;rintro e w1⟨v1,rfl,hb1,hp1⟩;have z:AU w w1:=by exact ER
 have C:AO _ w.heap.size 26 #[vn,vr,vf]:=AO.keep (by repeat(first|exact AO.made Ak _ _|refine AO.alloc ?_ _)) hb1;clear hb1;have iW:=V hp1;obtain⟨A1,c1,rfl,-⟩:=hp1;generalize hr:findAr p.AP id=r at*;have Hr:=V hr;clear hr;obtain⟨a,ha⟩:=BM<|r.getD KU;rw[ha]at iW⊢;obtain⟨s,hs⟩:=BM r.isSome;rw[hs];have Ha:=V ha;have Hs:=V hs;clear ha hs;simp only[rH];obtain⟨BX,Bf,Bh,CS,-⟩:=C.BF;go_wp2_with fail;refine(HN.1 _ _<|bA z _).mono ?_;rintro e w2⟨rfl,hb2⟩;have X6:AO w2 w1.heap.size 31 #[.int .i64 a.id,.int .i64 a.fr,.int .i64 a.dst,.slice A1 a.via.length c1,.int .i64 a.left,.int .i64 a.right]:=(AO.made rfl _ _).keep hb2;replace C:=(C.alloc _).keep hb2;have HP2:=V<|(iW.1.mono<|bA (bR w1) _).mono hb2;replace z:=J (bA z _) hb2;clear hb2;obtain⟨U,hn1⟩:=BM<|(JW p.nodes a.fr).getD nd0;rw[hn1];obtain⟨s1,hs1⟩:=BM (JW p.nodes a.fr).isSome;rw[hs1];have rD:=V hn1;have iU:=V hs1;clear hn1 hs1;try clear BX Bf Bh CS
 obtain⟨BX,Bf,Bh,CS,-⟩:=C.BF;obtain⟨EW,EX,EY,Ov,Ub,tK,tN,-⟩:=X6.J9;go_wp2_with fail;refine(HN.1 _ _<|bA z _).mono ?_;rintro e w3⟨rfl,c⟩;have X8:AO w3 w2.heap.size 56 #[.int .i64 U.id,.int .i64 U.pt.x,.int .i64 U.pt.y]:=(AO.made rfl _ _).keep c;replace C:=(C.alloc _).keep c;replace X6:=(X6.alloc _).keep c;have aAJ:=V<|(HP2.1.mono<|bA (bR w2) _).mono c;replace z:=J (bA z _) c;clear c;obtain⟨o,hn2⟩:=BM<|(JW p.nodes a.dst).getD nd0;rw[hn2];obtain⟨s2,hs2⟩:=BM (JW p.nodes a.dst).isSome;rw[hs2];have rE:=V hn2;have iV:=V hs2;clear hn2 hs2;try clear BX Bf Bh CS
 obtain⟨BX,Bf,Bh,CS,-⟩:=C.BF;try clear EW EX EY Ov Ub tK tN
 obtain⟨EW,EX,EY,Ov,Ub,tK,tN,-⟩:=X6.J9;obtain⟨Ox,Oy,Oz,aA9,-⟩:=X8.BF;go_upto_region 4 with fail;obtain⟨W4,K⟩:=BR<|w3.alloc<|.cells #[.int .i64 o.id,.int .i64 o.pt.x,.int .i64 o.pt.y] 56;have EF:AO W4 w3.heap.size 56 #[.int .i64 o.id,.int .i64 o.pt.x,.int .i64 o.pt.y]:=by rw[K];exact AO.made rfl _ _
 have j:AU w3 W4:=by rw[K];exact bA (bR w3) _
 rw[<-K];clear K;replace C:=C.keep j;replace X6:=X6.keep j;replace X8:=X8.keep j;have HP4:=V<|aAJ.1.mono j;replace z:=J z j;clear j;try clear BX Bf Bh CS
 obtain⟨BX,Bf,Bh,CS,-⟩:=C.BF;try clear EW EX EY Ov Ub tK tN
 obtain⟨EW,EX,EY,Ov,Ub,tK,tN,-⟩:=X6.J9;try clear Ox Oy Oz aA9
 obtain⟨Ox,Oy,Oz,aA9,-⟩:=X8.BF;obtain⟨Ie,Ig,Ih,UK,-⟩:=EF.BF;go_cut[41]λu wx=>u=.bool !(s&&(s1&&s2))/\wx=W4;case first=>cases s<;>cases s1<;>cases s2;all_goals go_wp2;go_meet;case rel=>exact⟨rfl,rfl⟩
 obtain⟨rfl,rfl⟩:=hcut;cases M:s&&(s1&&s2);case false=>have hf:=V (show q=none by rw[<-Hq.1,pathOf,Hr.1];cases r with|none=>rfl|some a0=>have h1:=Hs.1;have h2:=Ha.1;simp only[Xh,I7]at h1 h2;subst h1 h2;simp only[KD,iU.1,iV.1];simpa using M);clear M;go_wp2_with fail;go_ret2;exact⟨none,0,by rw[hf.1];rfl,z,by rw[hf.1];exact Own.nil _ _ _ _ _⟩
 have T:s=true/\s1=true/\s2=true:=by simpa using M
 have hf:=V (show q=some (U.pt::(a.via++[o.pt]))/\a.via.length<=1048576 by rw[<-Hq.1,pathOf,Hr.1];cases r with|none=>have h1:=Hs.1;rw[T.1]at h1;cases h1|some a0=>have h2:=Ha.1;simp only[I7]at h2;subst h2;refine⟨?_,DN.1 _<|aCy Hr.1⟩;simp only[KD,iU.1,iV.1,T.2.1,T.2.2,Bool.and_self,if_true,AV,nodeAt,rD.1,rE.1]);clear M T;go_wp2_with fail;have hlen:=V hf.1.2;have hBa:AU w<|((wc.alloc<|.cells #[.int .i64 U.pt.x,.int .i64 U.pt.y] 50).alloc<|.cells #[.int .i64 o.pt.x,.int .i64 o.pt.y] 50).alloc<|.cells #[.slice (some ⟨wc.heap.size,0,none⟩) 1 1,.slice A1 a.via.length c1,.slice (some ⟨wc.heap.size+1,0,none⟩) 1 1] 29:=bA (bA (bA z _) _) _;refine(aoF _ [⟨[U.pt],some ⟨wc.heap.size,0,none⟩,1⟩,⟨a.via,A1,c1⟩,⟨[o.pt],some ⟨wc.heap.size+1,0,none⟩,1⟩] _ (Sl.lit (n:=3) (AO.made Ak _ _) rfl<|DC I) ?_ Ak Ak ?_).mono ?_
 .intro k hk;have hk:k<3:=hk;rcases k with _|_|_|k;.exact EL.one<|((AO.made rfl _ _).alloc _).alloc _
  .exact HP4.1.mono<|bA (bA (bA (bR wc) _) _) _
  .exact EL.one<|(AO.made Ak _ _).alloc _
  omega
 .have:=hlen.1;simp only[LC,aCa,EK,Gy,Nb];omega
 rintro e w5⟨v5,rfl,hb5,hown⟩;have Bz:=hBa.size;have ho:=hown.EN (b':=w.heap.size) Bz;have B5:=J hBa hb5;simp only[LC,aCa,I9,aa3,Rj]at ho;have hf1:=hf.1.1;generalize U.pt::(a.via++[o.pt])=PL at ho hf1;have Hf1:=V hf1;obtain⟨A5,c5,rfl,-⟩:=Own.sl ho;have Ho:=V ho;have Cb:=V B5;clear hown ho B5 Bz hb5 hBa hf1;go_wp2_with fail;go_ret2;exact⟨A5,c5,by rw[Hf1.1];rfl,Cb.1,by rw[Hf1.1];exact Ho.1⟩
structure Ln where
 arc:Ar
 path:List Pt
 g:Nat
 via:SV
 pa:Option Addr
 pc:Nat
def lnC(x:Ln):Array Value:=#[.int .i64 x.arc.id,.int .i64 x.arc.fr,.int .i64 x.arc.dst,.slice x.via.a x.via.n x.via.c,.int .i64 x.arc.left,.int .i64 x.arc.right,.slice x.pa x.path.length x.pc]
def Zq(w:World)(x:Ln):Prop:=AO w x.g 237 (lnC x)/\Own w 0 50 2 Ep (.slice x.pa x.path.length x.pc) x.path
theorem Zq.keep{w w':World}{x:Ln}(h:Zq w x)(hb:AU w w'):Zq w' x:=⟨h.1.keep hb,h.2.keep hb⟩
structure Dc where
 ln:Ln
 k:Nat
def JA(s:Dc):List Value:=[.pointer<|some ⟨s.ln.g,0,none⟩,.int .i64 s.k]
def Ii(s:Dc):Value:=.agg #[.pointer<|some ⟨s.ln.g,0,none⟩,.int .i64 s.k]
def Dc.fst(s:Dc):Pt:=s.ln.path.getD s.k AY
def Dc.snd(s:Dc):Pt:=s.ln.path.getD (s.k+1) AY
def Fq(w:World)(s:Dc):Prop:=Zq w s.ln/\s.k+1<s.ln.path.length/\s.ln.path.length<=2097152
theorem Fq.keep{w w':World}{s:Dc}(h:Fq w s)(hb:AU w w'):Fq w' s:=⟨h.1.keep hb,h.2⟩
theorem AO.iD{w:World}{g:Nat}{t:TypeId}{c j o s z C K:Value}(h:AO w g t #[c,j,o,s,z,C,K]):g<w.heap.size/\w.cell? ⟨g,0,none⟩=some c/\w.cell? ⟨g,1,none⟩=some j/\w.cell? ⟨g,2,none⟩=some o/\w.cell? ⟨g,3,none⟩=some s/\w.cell? ⟨g,4,none⟩=some z/\w.cell? ⟨g,5,none⟩=some C/\w.cell? ⟨g,6,none⟩=some K/\w.frozen? ⟨g,0,none⟩=false/\w.frozen? ⟨g,1,none⟩=false/\w.frozen? ⟨g,2,none⟩=false/\w.frozen? ⟨g,3,none⟩=false/\w.frozen? ⟨g,4,none⟩=false/\w.frozen? ⟨g,5,none⟩=false/\w.frozen? ⟨g,6,none⟩=false:=⟨h.lt,h.cell 0,h.cell 1,h.cell 2,h.cell 3,h.cell 4,h.cell 5,h.cell 6,h.frozen 0,h.frozen 1,h.frozen 2,h.frozen 3,h.frozen 4,h.frozen 5,h.frozen 6⟩
theorem aAK(s:Dc)(w:World)(h:Fq w s):Calls prog 231 #[Ii s] w λe w'=>e=.returned (.tuple #[BD s.fst,BD s.snd])/\Nj w w':=by
 obtain⟨⟨T,hP⟩,hk,hm⟩:=h;obtain⟨A,c,he,hn,hc,hR⟩:=Own.sl hP;clear hP;injection he with he1 _ he3;subst he1 he3;unfold lnC at T;obtain⟨b,o,hA,j,c0,c1⟩:=hR.pt (k:=s.k) I;obtain⟨b',o',z,-,d0,d1⟩:=hR.pt (k:=s.k+1) hk;rw[hA]at z T;simp only[JU,Addr.mk.injEq,and_true]at z;obtain⟨rfl,rfl⟩:=z;have hf:s.fst=s.ln.path[s.k]:=by unfold Dc.fst;simp[List.getD,DK<|show s.k<s.ln.path.length by omega]
 have hs:s.snd=s.ln.path[s.k+1]:=by unfold Dc.snd;simp[List.getD,DK hk]
 rw[<-hf]at c0 c1;rw[<-hs]at d0 d1;unfold Ii BD;unfold maxLen at hc;clear hf hs hR hA;generalize s.fst=U at*;generalize s.snd=P1 at*;generalize s.ln.path.length=N at*;generalize s.k=k at*;generalize s.ln.g=g at*;have HL:=V T;clear T;go_enter func231,ntmps231;go_upto_region 1 with fail;obtain⟨W,C⟩:=BR<|((w.alloc<|.cells #[.pointer<|some ⟨g,0,none⟩,.int .i64 k] 230).alloc<|.cells #[.int .i64 0,.int .i64 0] 50).alloc<|.cells #[.int .i64 0,.int .i64 0] 50;have Bw:AU w W:=by rw[C];exact bA (bA (bA (bR w) _) _) _
 have Dw:w.drawn<=W.drawn:=by rw[C];exact dA (dA (dA (dR w) _) _) _
 have X1:AO W w.heap.size 230 #[.pointer<|some ⟨g,0,none⟩,.int .i64 k]:=by rw[C];exact((AO.made rfl _ _).alloc _).alloc _
 have X2:AO W (w.heap.size+1) 50 #[.int .i64 0,.int .i64 0]:=by rw[C];exact(AO.made Ak _ _).alloc _
 have X3:AO W (w.heap.size+1+1) 50 #[.int .i64 0,.int .i64 0]:=by rw[C];exact AO.made Ak _ _
 rw[<-C];clear C;have X9:=HL.1.keep Bw;have hgl:=HL.1.lt;obtain⟨M,-⟩:=dH Bw;replace c0:=(M b _ j).trans c0;replace c1:=(M b _ j).trans c1;replace d0:=(M b _ j).trans d0;replace d1:=(M b _ j).trans d1;clear M;obtain⟨Au,Aw,Az,-⟩:=X1.BL;obtain⟨Hg,Hu,Jf,aAL,X9d,X9e,X9f,X9g,-⟩:=X9.iD;obtain⟨BX,Bf,Bh,UL,WS⟩:=X2.BL;obtain⟨E5,Em,Ew,iE,aAM⟩:=X3.BL;have q1:0<=(k:Int):=I;have q2:(k:Int)<N:=I;have q3:0<=(k:Int)+1:=I;have q4:(k:Int)+1<N:=I;have q5:((k:Int)+1).toNat=k+1:=I;have q6:=DR<|(k:Int)+1;have q7:w.heap.size<w.heap.size+1:=I;have q8:g<w.heap.size+1:=I;have q9:b<w.heap.size+1:=I;refine Pe (w.heap.size+1) W (.run 19 0 0<|.call 19 1048575<|.call 20 2097151<|.done) λCG QR Ae Aj hS=>?_;iterate 19 refine Ah ?_
 refine BP ?_;clear hS;intro K hK AQ;go_simp;have hS:Fh (w.heap.size+1) W _:=Below.setCell (Below.setCell AQ.out (p:=⟨w.heap.size+1,0,none⟩) (Dh _)<|.int .i64 U.x) (p:=⟨w.heap.size+1,1,none⟩) (Dh _)<|.int .i64 U.y;clear AQ;refine hK.out _ _ hS λ_=>?_;clear hK K;try simp only[pu]
 refine BP ?_;clear hS;intro K hK AQ;go_simp;have hS:Fh (w.heap.size+1) W _:=Below.setCell (Below.setCell AQ.out (p:=⟨w.heap.size+1+1,0,none⟩) (aDp _)<|.int .i64 P1.x) (p:=⟨w.heap.size+1+1,1,none⟩) (aDp _)<|.int .i64 P1.y;clear AQ;refine hK.out _ _ hS λ_=>?_;clear hK K;try simp only[pu]
 refine L9 ?_;clear hS Aj Ae;intro hB;go_wp2_with fail;refine anb (g:=w.heap.size+1) (g':=w.heap.size+1+1) (cs:=#[.int .i64 U.x,.int .i64 U.y]) (cs':=#[.int .i64 P1.x,.int .i64 P1.y]) rfl UR UR rfl rfl rfl ?_ ?_ ⟨rfl,?_,?_⟩;.exact((AO.O9 X2).far (p:=⟨w.heap.size+1+1,0,none⟩) Ak _).far (p:=⟨w.heap.size+1+1,1,none⟩) Ak _
 .exact AO.O9<|(X3.far (p:=⟨w.heap.size+1,0,none⟩) Ak _).far (p:=⟨w.heap.size+1,1,none⟩) Ak _
 .exact Bw.trans<|hB.mono I
 exact Nat.le_succ_of_le Dw
def Jd(s:Dc):Int:=min s.fst.x s.snd.x
def QT(s:Dc):Int:=max s.fst.x s.snd.x
theorem aaR(s:Dc)(w:World)(h:Fq w s):Calls prog 228 #[Ii s] w λe w'=>e=.returned (.int .i64<|Jd s)/\Nj w w':=by have o:∀W,AU w W->Calls prog 231 #[Ii s] W _:=λW z=>aAK s W<|h.keep z;unfold Jd;unfold Ii BD at o;unfold Ii;have C:=V o;clear o h;generalize s.fst=T at*;generalize s.snd=U at*;generalize s.k=k at*;generalize s.ln.g=g at*;go_enter func228,ntmps228;go_wp2_with fail;refine(C.1 _<|bA (bR w) _).mono ?_;rintro e w1⟨rfl,c,j⟩;have K:AU w w1:=J (bA (bR w) _) c;have M:w.drawn<=w1.drawn:=dT (dA (dR w) _) j;clear c j;go_wp2_with fail;all_goals
  go_ret;refine⟨DZ ?_,?_,?_⟩;.first|rfl|omega
  .exact bA (bA K _) _
  .exact M
theorem aoG(s:Dc)(w:World)(h:Fq w s):Calls prog 229 #[Ii s] w λe w'=>e=.returned (.int .i64<|QT s)/\Nj w w':=by have o:∀W,AU w W->Calls prog 231 #[Ii s] W _:=λW z=>aAK s W<|h.keep z;unfold QT;unfold Ii BD at o;unfold Ii;have C:=V o;clear o h;generalize s.fst=T at*;generalize s.snd=U at*;generalize s.k=k at*;generalize s.ln.g=g at*;go_enter func229,ntmps229;go_wp2_with fail;refine(C.1 _<|bA (bR w) _).mono ?_;rintro e w1⟨rfl,c,j⟩;have K:AU w w1:=J (bA (bR w) _) c;have M:w.drawn<=w1.drawn:=dT (dA (dR w) _) j;clear c j;go_wp2_with fail;all_goals
  go_ret;refine⟨DZ ?_,?_,?_⟩;.first|rfl|omega
  .exact bA (bA K _) _
  .exact M
theorem agL(s:Dc)(w:World):Calls prog 232 #[Ii s] w λe w'=>e=.returned (.bool<|(s.k:Int)==0)/\AU w w':=by unfold Ii;generalize s.k=k;generalize s.ln.g=g;go_enter func232,ntmps232;go_wp2;go_ret;exact⟨rfl,bA (bR w) _⟩
theorem agM(s:Dc)(w:World)(h:Fq w s):Calls prog 233 #[Ii s] w λe w'=>e=.returned (.bool<|(s.k:Int)==(s.ln.path.length:Int)-2)/\AU w w':=by
 obtain⟨⟨j,z⟩,hk,hm⟩:=h;unfold lnC at j;clear z;unfold Ii;generalize s.ln.path.length=N at*;generalize s.k=k at*;generalize s.ln.g=g at*;have C:=V j;clear j;go_enter func233,ntmps233;go_upto_region 1 with fail;obtain⟨W,c⟩:=BR<|w.alloc<|.cells #[.pointer<|some ⟨g,0,none⟩,.int .i64 k] 230;have o:AU w W:=by rw[c];exact bA (bR w) _
 have K:AO W w.heap.size 230 #[.pointer<|some ⟨g,0,none⟩,.int .i64 k]:=by rw[c];exact AO.made rfl _ _
 rw[<-c];clear c;have M:=C.1.keep o;obtain⟨Au,Aw,Az,-⟩:=K.BL;obtain⟨Hg,Hu,Jf,T,U,X9e,X9f,X9g,-⟩:=M.iD;have q6:=DR<|(N:Int)-2;refine CZ W (.run 11 0 0<|.done) λCG QR Ae Aj hS=>?_;iterate 11 refine Ah ?_
 refine CX ?_;clear hS Aj Ae;intro hB;go_wp2;go_ret;exact⟨rfl,J o hB⟩
theorem Zq.grow{w w':World}{x:Ln}{row:Option Nat}{e:TypeId}(h:Zq w x)(o:w.grownBy w' row)(s:∀g,row=some g->∃cs,AO w g e cs)(h1:e≠237)(h2:e≠50):Zq w' x:=by
 refine⟨h.1.grow o λe'=>?_,Own.grown h.2 o λg c e'=>?_⟩;.obtain⟨cs,hb⟩:=s _ e'.symm;exact AO.Nh hb h.1 h1 rfl
 obtain⟨cs,hb⟩:=s _ e'.symm;obtain⟨cs',j⟩:=h.2.blk c;exact AO.Nh hb j h2 rfl
theorem Fq.grow{w w':World}{s:Dc}{row:Option Nat}{e:TypeId}(h:Fq w s)(c:w.grownBy w' row)(j:∀g,row=some g->∃cs,AO w g e cs)(h1:e≠237)(h2:e≠50):Fq w' s:=⟨h.1.grow c j h1 h2,h.2⟩
theorem aoH:Elem prog 224 230 2 16:=Elem.QI (z:=.agg #[.pointer none,.int .i64 0]) IK IK rfl I
theorem aD4(s:Dc):(JA s).length=2:=rfl
theorem agN(s:Dc):∀u∈JA s,u.oneCell'=true:=by simp[JA,Value.oneCell']
theorem Sl.aoI{w:World}{g:Nat}{t:TypeId}{s:Dc}(h:AO w g t #[.pointer<|some ⟨s.ln.g,0,none⟩,.int .i64 s.k]):Sl w (.slice (some ⟨g,0,none⟩) 1 1) ([s]:List Dc).length<|([s]:List Dc).flatMap JA:=Sl.lit (n:=1) h rfl<|DC I
def dY(l:List Pt):Bool:=(List.range<|l.length-1).all λk=>!decide (l.getD k AY=l.getD (k+1) AY)
theorem aoJ(l:List Pt)(k:Nat)(hk:k+1<l.length)(h:l[k]=l[k+1]):dY l=false:=by unfold dY;rw[aT];exact⟨k,FC.2 I,by simp[List.getD,DK hk,DK<|show k<l.length by omega,h]⟩
theorem aoK(l:List Pt)(h:∀k(hk:k+1<l.length),¬l[k]=l[k+1]):dY l=true:=by
 unfold dY;rw[KO];intro k hk;have hk:k+1<l.length:=by have:=FC.1 hk;omega
 have:=h k hk;simpa[List.getD,DK hk,DK<|show k<l.length by omega]using this
def MI(p:Pl)(a:Ar):Bool:=match pathOf p a.id with|none=>false|some l=>!(a.fr==a.dst&&decide ((l.length:Int)<4))&&dY l
structure GY where
 arc:Ar
 path:List Pt
 k:Nat
def Dc.abs(s:Dc):GY:=⟨s.ln.arc,s.ln.path,s.k⟩
def FY(p:Pl)(a:Ar):List GY:=(List.range<|((pathOf p a.id).getD []).length-1).map λk=>⟨a,(pathOf p a.id).getD [],k⟩
theorem aoL(p:Pl)(a:Ar)(k:Nat)(hk:k+1<((pathOf p a.id).getD []).length):(FY p a).take (k+1)=(FY p a).take k++[⟨a,(pathOf p a.id).getD [],k⟩]:=by
 have h:k<(FY p a).length:=by simp only[FY,D6,Oo];omega
 rw[Eu h];simp[FY]
theorem agO{p:Pl}{id:Int}{l:List Pt}(h:pathOf p id=some l)(c:Short p):2<=l.length/\l.length<=1048578:=by unfold pathOf at h;cases j:findAr p.AP id with|none=>rw[j]at h;cases h|some a=>
  rw[j]at h;simp only[]at h;split at h;.injection h with h;subst h;rw[En];have:=c a<|aCy j;omega
  .cases h
def agP(w:World)(p:Pl)(e:Ending)(w':World):Prop:=AU w w'/\if p.AP.all (MI p)=true then∃(sl:List Dc)(v:Value),e=.returned (.tuple #[v,.bool true])/\sl.map Dc.abs=p.AP.flatMap (FY p)/\(∀s∈sl,Fq w' s)/\Own w' w.heap.size 230 2 JA v sl else e=.returned (.tuple #[.slice none 0 0,.bool false])
theorem aoM(v:Value)(p:Pl)(w:World)(h:Cj w v p)(hsh:Short p)(hl:(p.AP.flatMap<|FY p).length<=2097152):Calls prog 225 #[v] w<|agP w p:=by
 have HP:=V h;have DN:=V hsh;clear hsh;obtain⟨vn,_,vf,al,rfl,hpa,-,⟨⟨Aa,ca,rfl,ha1,ha2,G6⟩,hV⟩,-⟩:=h;unfold maxLen at ha2;have HV:=V hV;clear hV;have IU:=V G6;clear G6;have hL:∀k,((al.take k).flatMap λa=>FY p a.1).length<=2097152:=λk=>by have h1:=aCx al (λa=>FY p a.1) k;rw[hpa,Qm]at hl;exact Du h1 hl
 have HL:=V hL;have aaS:p.AP.all (MI p)=al.all λa=>MI p a.1:=by rw[hpa,ZE];rfl
 have hFl:p.AP.flatMap (FY p)=al.flatMap λa=>FY p a.1:=by rw[hpa,Qm]
 obtain⟨Q,hQ⟩:=BR<|agP w p;have hbad:∀k(hk:k<al.length),MI p al[k].1=false->∀w',AU w w'->Q (.returned<|.tuple #[.slice none 0 0,.bool false]) w':=λk hk hb w' hw=>by rw[hQ];refine⟨hw,?_⟩;rw[aaS,dW al (λa=>MI p a.1) k hk hb];rfl
 have C:(∀k(hk:k<al.length),MI p al[k].1=true)->∀(sl:List Dc)(v:Value)w',AU w w'->sl.map Dc.abs=al.flatMap (λa=>FY p a.1)->(∀s∈sl,Fq w' s)->Own w' w.heap.size 230 2 JA v sl->Q (.returned<|.tuple #[v,.bool true]) w':=λh1 sl v w' hw h2 h3 h4=>by rw[hQ];refine⟨hw,?_⟩;rw[aaS,rF al (λa=>MI p a.1) h1,AZ rfl,hFl];exact⟨sl,v,rfl,h2,h3,h4⟩
 have aaT:=V hbad;have aoN:=V C;rw[<-hQ];clear hpa hl hL aaS hFl hbad C hQ;go_enter func225,ntmps225;go_wp2_with fail;obtain⟨K,hW0⟩:=BR<|w.alloc<|.cells #[vn,.slice Aa al.length ca,vf] 26;have X1:AO K w.heap.size 26 #[vn,.slice Aa al.length ca,vf]:=by rw[hW0];exact AO.made rfl _ _
 have GI:AU w K:=by rw[hW0];exact bA (bR w) _
 have HX0:=V X1;rw[<-hW0];clear hW0 X1;go_loopw[2,13](λs i wr=>∃(k:Nat)(sl:List Dc),k<=al.length/\i=.int .i64 k/\sl.map Dc.abs=((al.take k).flatMap λa=>FY p a.1)/\(∀s∈sl,Fq wr s)/\Own wr K.heap.size 230 2 JA s sl/\AU K wr/\∀j(hj:j<al.length),j<k->MI p al[j].1=true)λ_ i _=>al.length-(intOf i).toNat;case atStart=>exact⟨0,[],C9 _,rfl,rfl,(λ_ h=>by cases h),Own.nil _ _ _ _ _,bR K,λ_ _ h=>I⟩
 obtain⟨k,sl,hk,rfl,hsl,hok,hown,hb,hno⟩:=hrel;obtain⟨Hb,F7,Vl,Hok,Hno⟩:=G9 hb hown hsl hok hno;have X1:=HX0.1.keep hb;have hsz:=hb.size;clear hb hown hsl hok hno;obtain⟨Au,Aw,Az,BA,-⟩:=X1.BF;by_cases hlt:k<al.length;case neg=>have hE:al.take k=al:=Ip I;have T:=Vl.1;rw[hE]at T;have Hs:=V T;clear hE T;go_wp2_with fail;exact aoN.1 (λj hj=>Hno.1 j hj I) sl _ _ (J GI Hb.1) Hs.1 Hok.1<|F7.1.EN GI.size
 obtain⟨b,o,rfl,hlb,c0,c1,c2,c3,c4,c5⟩:=(IU.1.mono<|J GI Hb.1).ar hlt;obtain⟨Av,cv,hv,-⟩:=HV.1 k hlt;rw[hv]at c3;clear hv;go_wp2_with fail;refine(aD1 _ p _ _ (HP.1.mono<|J GI<|bA Hb.1 _) DN.1).mono ?_;rintro e w2⟨Ap,cp,rfl,hb2,U⟩;have hA1:AU wr w2:=J (bA (bR wr) _) hb2;have X5:AO w2 wr.heap.size 31 #[.int .i64 al[k].1.id,.int .i64 al[k].1.fr,.int .i64 al[k].1.dst,.slice Av al[k].1.via.length cv,.int .i64 al[k].1.left,.int .i64 al[k].1.right]:=(AO.made rfl _ _).keep hb2;have hown2:=F7.1.keep hA1;have hok2:∀s∈sl,Fq w2 s:=λs T=>(Hok.1 s T).keep hA1;have B2:=J Hb.1 hA1;have hsz2:=B2.size;replace X1:=X1.keep hA1;obtain⟨aA6,aoO,HB2⟩:=CB hown2 hok2 B2;clear hb2 hA1 hown2 hok2 B2 c0 c1 c2 c3 c4 c5 hlb X1 Au Aw Az BA;obtain⟨CJ,CO,CQ,Gi,Vo,tV,tX,-⟩:=X5.J9;cases hpo:pathOf p al[k].1.id with|none=>have hf:=V (show MI p al[k].1=false by unfold MI;rw[hpo]);clear U;simp only[lI,O7,if_false,yF,Nb];go_wp2_with fail;exact aaT.1 k hlt hf.1 _<|J GI HB2.1|some l=>
 rw[hpo]at U;simp only[Xh,if_true,I7]at U⊢;have aAN:=V hpo;have hll:=agO hpo DN.1;have Hop:=V U;clear hpo U;have agQ:MI p al[k].1=(!(al[k].1.fr==al[k].1.dst&&decide ((l.length:Int)<4))&&dY l):=by unfold MI;rw[aAN.1]
 have agR:=V agQ;clear agQ;by_cases hloop:al[k].1.fr=al[k].1.dst/\(l.length:Int)<4;.obtain⟨z,he2⟩:=hloop;have hf:=V (show MI p al[k].1=false by rw[agR.1,beq_iff_eq.2 z,Ia he2];rfl);have hz:=beq_iff_eq.2 z;clear z;go_wp2_with fail;exact aaT.1 k hlt hf.1 _<|J GI HB2.1
 have hz:(al[k].1.fr==al[k].1.dst&&decide ((l.length:Int)<4))=false:=by
  rw[yE];by_cases e:al[k].1.fr=al[k].1.dst;.right;exact GX λh=>hloop ⟨e,h⟩
  left;exact beq_eq_false_iff_ne.2 e
 have agS:=V (show MI p al[k].1=dY l by rw[agR.1,hz];rfl);go_upto_region 5 with fail;go_cut[37]λu wx=>u=.bool false/\wx=w2;case first=>
  cases e1:al[k].1.fr==al[k].1.dst;.go_wp2;go_meet;exact⟨rfl,rfl⟩
  have e2:¬(l.length:Int)<4:=λh=>hloop ⟨eq_of_beq e1,h⟩;clear hloop hz;go_wp2;go_meet;exact⟨rfl,rfl⟩
 case rest=>
 obtain⟨rfl,rfl⟩:=hcut;clear hloop hz;go_wp2_with fail;obtain⟨ln,hln⟩:=BR (⟨al[k].1,l,wc.heap.size,⟨Av,al[k].1.via.length,cv⟩,Ap,cp⟩:Ln);obtain⟨W5,IW⟩:=BR<|wc.alloc<|.cells #[.int .i64 al[k].1.id,.int .i64 al[k].1.fr,.int .i64 al[k].1.dst,.slice Av al[k].1.via.length cv,.int .i64 al[k].1.left,.int .i64 al[k].1.right,.slice Ap l.length cp] 237;have YR:AU wc W5:=by rw[IW];exact bA (bR wc) _
 have hlo:Zq W5 ln:=by rw[hln];refine⟨?_,(Hop.1.keep YR).EN<|C9 _⟩;rw[IW];exact AO.made rfl _ _
 rw[<-IW];obtain⟨Hlo,aD5,aav,anm,Cb⟩:=G9 hlo hln (aA6.1.keep YR) (λs T=>(aoO.1 s T).keep YR)<|J HB2.1 YR;clear YR IW hlo hln X5 CJ CO CQ Gi Vo tV tX;obtain⟨M,hM⟩:∃M,l.length=M+1:=⟨l.length-1,I⟩;clear hM;obtain⟨wo,rfl⟩:=BR wr;go_loopw[2,45](λs i wx=>∃(j:Nat)(sx:List Dc),j+1<=l.length/\i=.int .i64 j/\sx.map Dc.abs=((al.take k).flatMap λa=>FY p a.1)++(FY p al[k].1).take j/\(∀s∈sx,Fq wx s)/\Zq wx ln/\Own wx K.heap.size 230 2 JA s sx/\AU K wx/\∀m(hm:m+1<l.length),m<j->¬l[m]=l[m+1])λ_ i _=>l.length-(intOf i).toNat;case atStart=>exact⟨0,sl,I,rfl,by rw[Vl.1];simp,anm.1,Hlo.1,aav.1,Cb.1,λ_ _ h=>I⟩
 obtain⟨j,sx,hj,rfl,hsx,agT,afd,aAC,hbx,hnx⟩:=hrel;obtain⟨GV,Zp,o7,afe,aaU,WT⟩:=Lp hbx aAC hsx agT afd hnx;have ab2:=hbx.size;clear hbx aAC hsx agT afd hnx;by_cases hlj:j+1<l.length;case neg=>
  have hdist:=V (show MI p al[k].1=true by rw[agS.1];exact aoK l<|λm hm=>WT.1 m hm I);have iV:=V (show sx.map Dc.abs=(al.take<|k+1).flatMap λa=>FY p a.1 by rw[o7.1,Eu hlt,LY,Ip (l:=FY p al[k].1)<|by simp only[FY,aAN.1,D6,Oo,I7];omega];simp);go_wp2;go_roundw;case rel=>exact⟨k+1,sx,I,BH,iV.1,afe.1,Zp.1,GV.1,all_succ (p:=λx=>MI p x.1=true) Hno.1 hlt hdist.1⟩
  exact BJ
 have c:=Own.sl aaU.1.2;rw[aD5.1]at c;obtain⟨A1',ao8,z,-,-,c⟩:=c;injection z with z _ he3;subst z;subst he3;obtain⟨pb,po,aaQ,hlp,f0,f1⟩:=c.pt (k:=j) (by simp only[];omega);subst aaQ;obtain⟨pb',po',aAD,agE,f2,f3⟩:=c.pt (k:=j+1) (by simp only[];omega);simp only[JU,Addr.mk.injEq,and_true]at aAD;obtain⟨rfl,rfl⟩:=aAD;simp only[]at f0 f1 f2 f3;clear c agE;have rG:=DR<|(j:Int)+1;have r1:0<=(j:Int):=I;have r2:(j:Int)<l.length:=I;have r3:0<=(j:Int)+1:=I;have r4:(j:Int)+1<l.length:=I;have r5:((j:Int)+1).toNat=j+1:=I;have hE:=Vd l[j] l[j+1];by_cases he:l[j]=l[j+1]
 .have hd:decide (l[j]=l[j+1])=true:=Ia he;have hf:=V (show MI p al[k].1=false by rw[agS.1];exact aoJ l j hlj he);clear he;go_upto_region 11 with fail;refine CZ wr (.run 10 0 0<|.done) λCG QR Ae Aj hS=>?_;iterate 10 refine Ah ?_
  refine CX ?_;clear hS Aj Ae;intro hB;go_wp2_with fail;exact aaT.1 k hlt hf.1 _<|J GI<|J GV.1 hB
 have hd:decide (l[j]=l[j+1])=false:=GX he;have He:=V he;clear he;go_upto_region 11 with fail;refine CZ wr (.run 10 0 0<|.done) λCG QR Ae Aj hS=>?_;iterate 10 refine Ah ?_
 refine CX ?_;clear hS Aj Ae;intro hB;clear f0 f1 f2 f3 rG r3 r4 r5 hE;have hlen:=V (show sx.length+1<=2097152 by
  have h2:=congrArg List.length o7.1;rw[D6,EK,JF]at h2;have h3:=HL.1<|k+1;rw[Eu hlt,LY,EK]at h3;simp only[LC,aCa,I9]at h3;have h4:(FY p al[k].1).length=l.length-1:=by simp only[FY,aAN.1,D6,Oo,I7]
  omega);have hnew:FK<|Fq wr.drew ⟨ln,j⟩:=V ⟨aaU.1.keep hB,by rw[aD5.1];exact⟨hlj,by simp only[];omega⟩⟩;have hgl:ln.g=wc.heap.size:=by rw[aD5.1]
 have Hgl:=V hgl;have aaV:FK<|Own wr.drew K.heap.size 230 2 JA u2 sx:=V Zp.1;have ano:FK<|∀s∈sx,Fq wr.drew s:=V λs T=>(afe.1 s T).keep hB;have anp:FK<|Zq wr.drew ln:=V<|aaU.1.keep hB;have anq:K.heap.size<=wr.drew.heap.size:=ab2;clear hB hgl;go_wp2_with
  (at_builtin;refine FV _ rfl (.tmp 58) (.tmp 62) _ rfl (base:=K.heap.size) aoH aD4 agN rfl (aaV.out.alloc _) rfl (l2:=[(⟨ln,j⟩:Dc)]) (Sl.aoI<|by rw[Hgl.1];exact AO.made Ak _ _) (by have:=hlen.1;simp only[Gy,Nb];omega) (by have:=hlen.1;simp only[Gy,Nb];omega) D8 ?_;intro v1 w1 hown1 hg hat;have Nl:=V<|show AU K w1 from bG (bA (bD GV.1) _) hg<|λg hk=>(aaV.out.lt g hk).1;have c:∀g,(u2:Value).ownBlock=some g->∃cs,AO (wr.drew.alloc<|.cells #[.pointer<|some ⟨wc.heap.size,0,none⟩,.int .i64 j] 230) g 230 cs:=λg hg=>(aaV.out.alloc _).blk hg;have anr:=V (show∀s∈sx++[(⟨ln,j⟩:Dc)],Fq w1 s fromλs T=>by
    rcases F9.1 T with h|h;.exact((ano.out s h).keep<|bA (bR wr.drew) _).grow hg c BI BI
    rw[EJ.1 h];exact(hnew.out.keep<|bA (bR wr.drew) _).grow hg c BI BI);have ant:=V<|(anp.out.keep<|bA (bR wr.drew) _).grow hg c BI BI;clear hg hat c;have ZH:=V hown1;clear hown1);have iU:=V (show(sx++[(⟨ln,j⟩:Dc)]).map Dc.abs=((al.take k).flatMap λa=>FY p a.1)++(FY p al[k].1).take (j+1)by rw[Gt,o7.1,aoL p al[k].1 j<|by rw[aAN.1];exact hlj,Jv];simp only[FB,Ri,Dc.abs,aAN.1,I7,aD5.1]);go_roundw;case rel=>exact⟨j+1,_,I,BH,iU.1,anr.1,ant.1,ZH.1,Nl.1,λm hm hmj=>if e:m<j then WT.1 m hm e else by have:m=j:=I;subst this;exact He.1⟩
 exact BJ
theorem aAO(x y:Int)(w:World):Calls prog 71 #[.int .i64 x,.int .i64 y] w λe w'=>e=.returned (.int .i64<|Lj x y)/\Nj w w':=(anN x y w).mono λe w' h=>⟨h.1,by rw[<-h.2];exact⟨bR w,dR w⟩⟩
theorem anu(s t:Dc)(w:World)(hs:Fq w s)(ht:Fq w t):Calls prog 227 #[Ii s,Ii t] w λe w'=>e=.returned (.int .i64<|Lj (Jd s)<|Jd t)/\Nj w w':=by
 have j:∀W,AU w W->Calls prog 228 #[Ii s] W _:=λW c=>aaR s W<|hs.keep c;have o:∀W,AU w W->Calls prog 228 #[Ii t] W _:=λW c=>aaR t W<|ht.keep c;unfold Ii at j o⊢;have HS:=V j;have HT:=V o;clear j o hs ht;generalize Jd s=x at*;generalize Jd t=y at*;generalize s.k=k at*;generalize t.k=m at*;generalize s.ln.g=g at*;generalize t.ln.g=h at*;go_enter func227,ntmps227;go_upto_region 1 with fail;obtain⟨W,c⟩:=BR<|(w.alloc<|.cells #[.pointer<|some ⟨g,0,none⟩,.int .i64 k] 230).alloc<|.cells #[.pointer<|some ⟨h,0,none⟩,.int .i64 m] 230;have z:AU w W:=by rw[c];exact bA (bA (bR w) _) _
 have Dw:=V (show w.drawn<=W.drawn by rw[c];exact dA (dA (dR w) _) _);have X1:AO W w.heap.size 230 #[.pointer<|some ⟨g,0,none⟩,.int .i64 k]:=by rw[c];exact(AO.made rfl _ _).alloc _
 have X2:AO W (w.heap.size+1) 230 #[.pointer<|some ⟨h,0,none⟩,.int .i64 m]:=by rw[c];exact AO.made Ak _ _
 rw[<-c];clear c;obtain⟨Au,Aw,Az,-⟩:=X1.BL;obtain⟨BX,Bf,Bh,-⟩:=X2.BL;refine CZ W (.take 0 1<|.take 2 5<|.call 1 7<|.call 3 15<|.call 4 31<|.take 5 63<|.done) λCG QR Ae Aj hS=>?_;iterate 2 refine Ah ?_
 refine BP ?_;clear hS;intro K hK AQ;go_simp;refine(HS.1 _<|J z AQ.out).mono ?_;rintro e Bv⟨rfl,Bj,C⟩;have hS:Since W Bv:=J (w:=W) AQ.out Bj;clear AQ;refine hK.out _ _ hS λ_=>?_;clear hK K;try simp only[pu]
 refine BP ?_;clear hS;intro K hK AQ;go_simp;refine(HT.1 _<|J z AQ.out).mono ?_;rintro e M⟨rfl,F5,T⟩;have hS:Since W M:=J (w:=W) AQ.out F5;clear AQ;refine hK.out _ _ hS λ_=>?_;clear hK K;try simp only[pu]
 refine BP ?_;clear hS;intro K hK AQ;go_simp;refine(aAO x y _).mono ?_;rintro e U⟨rfl,Ld,hd3⟩;have hS:Since W U:=J (w:=W) AQ.out Ld;clear AQ;refine hK.out _ _ hS λ_=>?_;clear hK K;try simp only[pu]
 refine Ah ?_;refine CX ?_;clear hS Aj Ae;intro hB;have D3:=V<|dT (dT (dT (dD Dw.1) C) T) hd3;go_wp2;go_ret;exact⟨rfl,J z hB,D3.1⟩
def tY(a b:Dc):Bool:=decide (a.k+1=b.k)||a.ln.arc.fr==a.ln.arc.dst&&decide (a.k=0)&&decide ((b.k:Int)=(b.ln.path.length:Int)-2)
def Zr(m:Int)(a b:Dc):Bool:=if tY a b then m==1 else m==0
def JX(f:Int->Pt)(s t:Dc)(id:Int):Bool:=(id==t.ln.arc.fr||id==t.ln.arc.dst)&&Eh s.fst s.snd (f id)&&Eh t.fst t.snd (f id)
def Qh(f:Int->Pt)(s t:Dc):Bool:=if s.ln.arc.id=t.ln.arc.id then(if t.k<s.k then Zr (KA s.fst s.snd t.fst t.snd) t s else Zr (KA s.fst s.snd t.fst t.snd) s t)else if KA s.fst s.snd t.fst t.snd=1 then JX f s t s.ln.arc.fr||JX f s t s.ln.arc.dst else KA s.fst s.snd t.fst t.snd==0
theorem Fq.line{w:World}{s:Dc}(h:Fq w s):AO w s.ln.g 237 #[.int .i64 s.ln.arc.id,.int .i64 s.ln.arc.fr,.int .i64 s.ln.arc.dst,.slice s.ln.via.a s.ln.via.n s.ln.via.c,.int .i64 s.ln.arc.left,.int .i64 s.ln.arc.right,.slice s.ln.pa s.ln.path.length s.ln.pc]:=h.1.1
theorem anv(f:Int->Pt)(mb n:Nat)(s t:Dc)(w:World)(hs:Fq w s)(ht:Fq w t)(hm:Jp w mb n f)(hw1:Eb s.ln.arc.fr)(hw2:Eb s.ln.arc.dst):Calls prog 230 #[Ii s,Ii t,.map<|some mb] w λe w'=>e=.returned (.bool<|Qh f s t)/\AU w w':=by
 have TS:∀W,AU w W->Calls prog 231 #[Ii s] W _:=λW hW=>aAK s W<|hs.keep hW;have TT:∀W,AU w W->Calls prog 231 #[Ii t] W _:=λW hW=>aAK t W<|ht.keep hW;have TM:∀W,Calls prog 260 #[BD s.fst,BD s.snd,BD t.fst,BD t.snd] W _:=λW=>an9 s.fst s.snd t.fst t.snd W;have TO:∀p q r:Pt,∀W,Calls prog 39 #[BD p,BD q,BD r] W _:=λp q r W=>zB p q r W;unfold Ii BD at TS TT;unfold BD at TM TO;unfold Ii;obtain⟨HS,HT,HM,HO,Ks,Kt,Km⟩:=V9 TS TT TM TO hs ht hm;have hsk:s.k<=2097152:=by have:=hs.2;omega
 have htk:t.k<=2097152:=by have:=ht.2;omega
 clear TS TT TM TO hs ht hm;obtain⟨q,hq⟩:=BM<|Qh f s t;rw[hq];unfold Qh at hq;have Hq:=V hq;clear hq;go_enter func230,ntmps230;go_wp2_with fail;refine(HS.1 _<|bA (bA (bR w) _) _).mono ?_;rintro e w1⟨rfl,hb1,-⟩;have Bw:AU w w1:=by exact ER
 have X3:AO _ w.heap.size 230 #[.pointer<|some ⟨s.ln.g,0,none⟩,.int .i64 s.k]:=AO.keep (by repeat(first|exact AO.made Ak _ _|refine AO.alloc ?_ _)) hb1;have T:AO _ (w.heap.size+1) 230 #[.pointer<|some ⟨t.ln.g,0,none⟩,.int .i64 t.k]:=AO.keep (by repeat(first|exact AO.made Ak _ _|refine AO.alloc ?_ _)) hb1;clear hb1;obtain⟨E5,Em,Ew,-⟩:=X3.BL;obtain⟨Bg,Bq,CP,-⟩:=T.BL;go_wp2_with fail;refine(HT.1 _<|bA (bA Bw _) _).mono ?_;rintro e w2⟨rfl,hb2,-⟩;have X7:AO w2 w1.heap.size 50 #[.int .i64 s.fst.x,.int .i64 s.fst.y]:=((AO.made rfl _ _).alloc _).keep hb2;have X8:AO w2 (w1.heap.size+1) 50 #[.int .i64 s.snd.x,.int .i64 s.snd.y]:=(AO.made Ak _ _).keep hb2;replace X3:=((X3.alloc _).alloc _).keep hb2;replace T:=((T.alloc _).alloc _).keep hb2;replace Bw:=J (bA (bA Bw _) _) hb2;clear hb2;try clear E5 Em Ew
 obtain⟨E5,Em,Ew,-⟩:=X3.BL;try clear Bg Bq CP
 obtain⟨Bg,Bq,CP,-⟩:=T.BL;obtain⟨Ec,Ee,Fg,-⟩:=X7.BL;obtain⟨Ox,Oy,Oz,-⟩:=X8.BL;go_wp2_with fail;refine(HM.1 _).mono ?_;rintro e w3⟨rfl,hb3⟩;have C:AO w3 w2.heap.size 50 #[.int .i64 t.fst.x,.int .i64 t.fst.y]:=((AO.made rfl _ _).alloc _).keep hb3;have K:AO w3 (w2.heap.size+1) 50 #[.int .i64 t.snd.x,.int .i64 t.snd.y]:=(AO.made Ak _ _).keep hb3;replace X3:=((X3.alloc _).alloc _).keep hb3;replace T:=((T.alloc _).alloc _).keep hb3;replace X7:=((X7.alloc _).alloc _).keep hb3;replace X8:=((X8.alloc _).alloc _).keep hb3;replace Bw:=J (bA (bA Bw _) _) hb3;clear hb3;generalize KA s.fst s.snd t.fst t.snd=m at*;have Y1:=(Ks.1.keep Bw).line;have Y2:=(Kt.1.keep Bw).line;try clear E5 Em Ew
 obtain⟨E5,Em,Ew,iE,aAM⟩:=X3.BL;try clear Bg Bq CP
 obtain⟨Bg,Bq,CP,DX,EU⟩:=T.BL;obtain⟨tZ,tq,tu,uD,uF,uG,uH,uI,-⟩:=Y1.iD;obtain⟨iF,iG,iH,iI,iJ,iK,iL,iM,-⟩:=Y2.iD;go_upto_region 4 with fail;refine CZ w3 (.run 13 0 0<|.done) λCG QR Ae Aj hS=>?_;iterate 13 refine Ah ?_
 refine CX ?_;clear hS Aj Ae;intro hB;have Bd:AU w w3.drew:=bD Bw;clear hB;by_cases hid:s.ln.arc.id=t.ln.arc.id;case neg=>
  have aff:(s.ln.arc.id==t.ln.arc.id)=false:=beq_eq_false_iff_ne.2 hid;have hq:=Hq.1;rw[AX hid]at hq;replace Hq:=V hq;rw[aff];clear hid hq;by_cases hm1:m=1;case neg=>
   have hm':(m !=1)=true:=by simpa using hm1
   have z:=V (show(m==0)=q by rw[<-Hq.1,AX hm1]);clear hm1;go_wp2;go_ret;exact⟨Cm z.1,Bd⟩
  subst hm1;have hq:=Hq.1;rw[AZ rfl]at hq;replace Hq:=V hq;clear hq;go_upto_region 12 with fail;obtain⟨w4,hw4⟩:=BR w3.drew;have dZ:AU w3 w4:=by rw[hw4];exact bD<|bR w3
  rw[<-hw4];rw[<-hw4]at Bd;clear hw4;replace X3:=X3.keep dZ;replace T:=T.keep dZ;replace X7:=X7.keep dZ;replace X8:=X8.keep dZ;replace C:=C.keep dZ;replace K:=K.keep dZ;replace Y1:=Y1.keep dZ;replace Y2:=Y2.keep dZ;try clear E5 Em Ew
  try clear iE aAM
  obtain⟨E5,Em,Ew,-⟩:=X3.BL;try clear tZ tq tu uD uF uG uH uI
  obtain⟨tZ,tq,tu,uD,uF,uG,uH,uI,-⟩:=Y1.iD;refine CZ w4 (.run 14 0 0<|.done) λCG QR Ae Aj hS=>?_;iterate 14 refine Ah ?_
  refine CX ?_;clear hS Aj Ae;intro hB;have U:AU w4 w4.drew:=bD<|bR w4;obtain⟨W,hW⟩:=BR w4.drew;rw[<-hW];rw[<-hW]at U;obtain⟨Uc,D7,Jg,WU,MJ,UM,aD6⟩:=V9 (J Bd U) (T.keep U) (X7.keep U) (X8.keep U) (C.keep U) (K.keep U)<|Y2.keep U;clear hB U hW dZ Bw Bd X3 E5 Em Ew T Bg Bq CP X7 Ec Ee Fg X8 Ox Oy Oz C K Y1 tZ tq tu uD uF uG uH uI Y2 iF iG iH iI iJ iK iL iM;go_wp2_with fail;go_loopw[100](λu wx=>∃j:Int,(j=0\/j=1\/j=2)/\u=.int .i64 j/\AU W wx/\(1<=j->JX f s t s.ln.arc.fr=false)/\(2<=j->JX f s t s.ln.arc.dst=false))λu _=>2-(intOf u).toNat;case atStart=>exact⟨0,I,rfl,bR W,λh=>I,λh=>I⟩
  obtain⟨j,hj,rfl,hb,hl,hr⟩:=hrel;obtain⟨Hb,Hl,Hr⟩:=CB hb hl hr;have T:=D7.1.keep hb;have X7:=Jg.1.keep hb;have X8:=WU.1.keep hb;have C:=MJ.1.keep hb;have K:=UM.1.keep hb;have Y2:=aD6.1.keep hb;clear hb hl hr;try clear Bg Bq CP
  try clear DX EU
  obtain⟨Bg,Bq,CP,-⟩:=T.BL;try clear Ec Ee Fg
  obtain⟨Ec,Ee,Fg,-⟩:=X7.BL;try clear Ox Oy Oz
  obtain⟨Ox,Oy,Oz,-⟩:=X8.BL;obtain⟨Hg,Hu,Jf,-⟩:=C.BL;obtain⟨Ie,Ig,Ih,-⟩:=K.BL;try clear iF iG iH iI iJ iK iL iM
  obtain⟨iF,iG,iH,iI,iJ,iK,iL,iM,-⟩:=Y2.iD;rcases hj with rfl|rfl|rfl
  .have hI:∀w,(Instr.index 129 (.agg #[.int .i64 s.ln.arc.fr,.int .i64 s.ln.arc.dst])<|.int .i64 0).run prog w=.ok (.int .i64 s.ln.arc.fr) w:=λ_=>by kernel_rfl
   have hlk:=(Km.1.keep<|J Uc.1 Hb.1).look s.ln.arc.fr hw1;unfold BD at hlk;cases h1:s.ln.arc.fr==t.ln.arc.fr;case false=>
    cases h2:s.ln.arc.fr==t.ln.arc.dst;case false=>
     have c:=V (show JX f s t s.ln.arc.fr=false by simp[JX,h1,h2]);go_wp2;go_roundw;case rel=>exact⟨1,I,rfl,bA Hb.1 _,λh=>by first|exact c.1|exact Hl.1 I,λh=>by first|omega|exact c.1⟩
     simp[intOf]
    have hc:=V (show(s.ln.arc.fr==t.ln.arc.fr||s.ln.arc.fr==t.ln.arc.dst)=true by rw[h2];simp);go_wp2_with fail;refine(HO.1 s.fst s.snd (f s.ln.arc.fr) _).mono ?_;rintro e w5⟨rfl,o⟩;have B5:AU W w5:=J (bA Hb.1 _) o;have VI:AO w5 wr.heap.size 50 #[.int .i64 (f s.ln.arc.fr).x,.int .i64 (f s.ln.arc.fr).y]:=(AO.made rfl _ _).keep o;clear o T Bg Bq CP Y2 iF iG iH iI iJ iK iL iM X7 Ec Ee Fg X8 Ox Oy Oz C Hg Hu Jf K Ie Ig Ih hlk;cases e3:Eh s.fst s.snd<|f s.ln.arc.fr;case false=>
     have c:=V (show JX f s t s.ln.arc.fr=false by simp[JX,e3]);clear e3;go_wp2;go_roundw;case rel=>exact⟨1,I,rfl,B5,λh=>by first|exact c.1|exact Hl.1 I,λh=>by first|omega|exact c.1⟩
     simp[intOf]
    have E3:=V e3;clear e3;have C:=MJ.1.keep B5;have K:=UM.1.keep B5;try clear Hg Hu Jf
    obtain⟨Hg,Hu,Jf,-⟩:=C.BL;try clear Ie Ig Ih
    obtain⟨Ie,Ig,Ih,-⟩:=K.BL;obtain⟨YS,YT,YU,-⟩:=VI.BL;go_wp2_with fail;refine(HO.1 t.fst t.snd (f s.ln.arc.fr) _).mono ?_;rintro e w6⟨rfl,M⟩;have B6:AU W w6:=J B5 M;clear M VI YS YT YU C Hg Hu Jf K Ie Ig Ih;cases e4:Eh t.fst t.snd<|f s.ln.arc.fr;case false=>
     have c:=V (show JX f s t s.ln.arc.fr=false by simp[JX,e4]);clear e4;go_wp2;go_roundw;case rel=>exact⟨1,I,rfl,B6,λh=>by first|exact c.1|exact Hl.1 I,λh=>by first|omega|exact c.1⟩
     simp[intOf]
    have c:=V (show JX f s t s.ln.arc.fr=true by simp only[JX,hc.1,E3.1,e4];rfl);have z:=V (show true=q by rw[<-Hq.1,c.1];simp);clear e4;go_wp2;go_ret;exact⟨Cm z.1,J Uc.1 B6⟩
   have hc:=V (show(s.ln.arc.fr==t.ln.arc.fr||s.ln.arc.fr==t.ln.arc.dst)=true by rw[h1];simp);go_wp2_with fail;refine(HO.1 s.fst s.snd (f s.ln.arc.fr) _).mono ?_;rintro e w5⟨rfl,o⟩;have B5:AU W w5:=J (bA Hb.1 _) o;have VI:AO w5 wr.heap.size 50 #[.int .i64 (f s.ln.arc.fr).x,.int .i64 (f s.ln.arc.fr).y]:=(AO.made rfl _ _).keep o;clear o T Bg Bq CP Y2 iF iG iH iI iJ iK iL iM X7 Ec Ee Fg X8 Ox Oy Oz C Hg Hu Jf K Ie Ig Ih hlk;cases e3:Eh s.fst s.snd<|f s.ln.arc.fr;case false=>
    have c:=V (show JX f s t s.ln.arc.fr=false by simp[JX,e3]);clear e3;go_wp2;go_roundw;case rel=>exact⟨1,I,rfl,B5,λh=>by first|exact c.1|exact Hl.1 I,λh=>by first|omega|exact c.1⟩
    simp[intOf]
   have E3:=V e3;clear e3;have C:=MJ.1.keep B5;have K:=UM.1.keep B5;try clear Hg Hu Jf
   obtain⟨Hg,Hu,Jf,-⟩:=C.BL;try clear Ie Ig Ih
   obtain⟨Ie,Ig,Ih,-⟩:=K.BL;try clear YS YT YU
   obtain⟨YS,YT,YU,-⟩:=VI.BL;go_wp2_with fail;refine(HO.1 t.fst t.snd (f s.ln.arc.fr) _).mono ?_;rintro e w6⟨rfl,M⟩;have B6:AU W w6:=J B5 M;clear M VI YS YT YU C Hg Hu Jf K Ie Ig Ih;cases e4:Eh t.fst t.snd<|f s.ln.arc.fr;case false=>
    have c:=V (show JX f s t s.ln.arc.fr=false by simp[JX,e4]);clear e4;go_wp2;go_roundw;case rel=>exact⟨1,I,rfl,B6,λh=>by first|exact c.1|exact Hl.1 I,λh=>by first|omega|exact c.1⟩
    simp[intOf]
   have c:=V (show JX f s t s.ln.arc.fr=true by simp only[JX,hc.1,E3.1,e4];rfl);have z:=V (show true=q by rw[<-Hq.1,c.1];simp);clear e4;go_wp2;go_ret;exact⟨Cm z.1,J Uc.1 B6⟩
  .have hI:∀w,(Instr.index 129 (.agg #[.int .i64 s.ln.arc.fr,.int .i64 s.ln.arc.dst])<|.int .i64 1).run prog w=.ok (.int .i64 s.ln.arc.dst) w:=λ_=>by kernel_rfl
   have hlk:=(Km.1.keep<|J Uc.1 Hb.1).look s.ln.arc.dst hw2;unfold BD at hlk;cases h1:s.ln.arc.dst==t.ln.arc.fr;case false=>
    cases h2:s.ln.arc.dst==t.ln.arc.dst;case false=>
     have c:=V (show JX f s t s.ln.arc.dst=false by simp[JX,h1,h2]);go_wp2;go_roundw;case rel=>exact⟨2,I,rfl,bA Hb.1 _,λh=>by first|exact c.1|exact Hl.1 I,λh=>by first|omega|exact c.1⟩
     simp[intOf]
    have hc:=V (show(s.ln.arc.dst==t.ln.arc.fr||s.ln.arc.dst==t.ln.arc.dst)=true by rw[h2];simp);go_wp2_with fail;refine(HO.1 s.fst s.snd (f s.ln.arc.dst) _).mono ?_;rintro e w5⟨rfl,o⟩;have B5:AU W w5:=J (bA Hb.1 _) o;have VI:AO w5 wr.heap.size 50 #[.int .i64 (f s.ln.arc.dst).x,.int .i64 (f s.ln.arc.dst).y]:=(AO.made rfl _ _).keep o;clear o T Bg Bq CP Y2 iF iG iH iI iJ iK iL iM X7 Ec Ee Fg X8 Ox Oy Oz C Hg Hu Jf K Ie Ig Ih hlk;cases e3:Eh s.fst s.snd<|f s.ln.arc.dst;case false=>
     have c:=V (show JX f s t s.ln.arc.dst=false by simp[JX,e3]);clear e3;go_wp2;go_roundw;case rel=>exact⟨2,I,rfl,B5,λh=>by first|exact c.1|exact Hl.1 I,λh=>by first|omega|exact c.1⟩
     simp[intOf]
    have E3:=V e3;clear e3;have C:=MJ.1.keep B5;have K:=UM.1.keep B5;try clear Hg Hu Jf
    obtain⟨Hg,Hu,Jf,-⟩:=C.BL;try clear Ie Ig Ih
    obtain⟨Ie,Ig,Ih,-⟩:=K.BL;try clear YS YT YU
    obtain⟨YS,YT,YU,-⟩:=VI.BL;go_wp2_with fail;refine(HO.1 t.fst t.snd (f s.ln.arc.dst) _).mono ?_;rintro e w6⟨rfl,M⟩;have B6:AU W w6:=J B5 M;clear M VI YS YT YU C Hg Hu Jf K Ie Ig Ih;cases e4:Eh t.fst t.snd<|f s.ln.arc.dst;case false=>
     have c:=V (show JX f s t s.ln.arc.dst=false by simp[JX,e4]);clear e4;go_wp2;go_roundw;case rel=>exact⟨2,I,rfl,B6,λh=>by first|exact c.1|exact Hl.1 I,λh=>by first|omega|exact c.1⟩
     simp[intOf]
    have c:=V (show JX f s t s.ln.arc.dst=true by simp only[JX,hc.1,E3.1,e4];rfl);have z:=V (show true=q by rw[<-Hq.1,c.1];simp);clear e4;go_wp2;go_ret;exact⟨Cm z.1,J Uc.1 B6⟩
   have hc:=V (show(s.ln.arc.dst==t.ln.arc.fr||s.ln.arc.dst==t.ln.arc.dst)=true by rw[h1];simp);go_wp2_with fail;refine(HO.1 s.fst s.snd (f s.ln.arc.dst) _).mono ?_;rintro e w5⟨rfl,o⟩;have B5:AU W w5:=J (bA Hb.1 _) o;have VI:AO w5 wr.heap.size 50 #[.int .i64 (f s.ln.arc.dst).x,.int .i64 (f s.ln.arc.dst).y]:=(AO.made rfl _ _).keep o;clear o T Bg Bq CP Y2 iF iG iH iI iJ iK iL iM X7 Ec Ee Fg X8 Ox Oy Oz C Hg Hu Jf K Ie Ig Ih hlk;cases e3:Eh s.fst s.snd<|f s.ln.arc.dst;case false=>
    have c:=V (show JX f s t s.ln.arc.dst=false by simp[JX,e3]);clear e3;go_wp2;go_roundw;case rel=>exact⟨2,I,rfl,B5,λh=>by first|exact c.1|exact Hl.1 I,λh=>by first|omega|exact c.1⟩
    simp[intOf]
   have E3:=V e3;clear e3;have C:=MJ.1.keep B5;have K:=UM.1.keep B5;try clear Hg Hu Jf
   obtain⟨Hg,Hu,Jf,-⟩:=C.BL;try clear Ie Ig Ih
   obtain⟨Ie,Ig,Ih,-⟩:=K.BL;try clear YS YT YU
   obtain⟨YS,YT,YU,-⟩:=VI.BL;go_wp2_with fail;refine(HO.1 t.fst t.snd (f s.ln.arc.dst) _).mono ?_;rintro e w6⟨rfl,M⟩;have B6:AU W w6:=J B5 M;clear M VI YS YT YU C Hg Hu Jf K Ie Ig Ih;cases e4:Eh t.fst t.snd<|f s.ln.arc.dst;case false=>
    have c:=V (show JX f s t s.ln.arc.dst=false by simp[JX,e4]);clear e4;go_wp2;go_roundw;case rel=>exact⟨2,I,rfl,B6,λh=>by first|exact c.1|exact Hl.1 I,λh=>by first|omega|exact c.1⟩
    simp[intOf]
   have c:=V (show JX f s t s.ln.arc.dst=true by simp only[JX,hc.1,E3.1,e4];rfl);have z:=V (show true=q by rw[<-Hq.1,c.1];simp);clear e4;go_wp2;go_ret;exact⟨Cm z.1,J Uc.1 B6⟩
  have z:=V (show false=q by rw[<-Hq.1,Hl.1 I,Hr.1 I];rfl);go_wp2;go_ret;exact⟨Cm z.1,J Uc.1 Hb.1⟩
 have aff:(s.ln.arc.id==t.ln.arc.id)=true:=beq_iff_eq.2 hid;have hq:=Hq.1;rw[AZ hid]at hq;replace Hq:=V hq;clear hid hq;clear X7 Ec Ee Fg X8 Ox Oy Oz C K;go_upto_if 47 with fail;go_cut[48]λu wx=>∃a b:Dc,Fq w a/\Fq w b/\AO wx w.heap.size 230 #[.pointer<|some ⟨a.ln.g,0,none⟩,.int .i64 a.k]/\AO wx (w.heap.size+1) 230 #[.pointer<|some ⟨b.ln.g,0,none⟩,.int .i64 b.k]/\Zr m a b=q/\a.k<=2097152/\b.k<=2097152/\AU w wx;case first=>
  by_cases hsw:t.k<s.k
  .have z:=V (show Zr m t s=q by rw[<-Hq.1,AZ hsw]);go_wp2;go_meet;refine⟨t,s,Kt.1,Ks.1,?_,?_,z.1,htk,hsk,?_⟩;.exact((AO.O9<|AO.drew X3).far (p:=⟨w.heap.size+1,0,none⟩) Ak _).far (p:=⟨w.heap.size+1,1,none⟩) Ak _
   .exact AO.O9<|((AO.drew T).far (p:=⟨w.heap.size,0,none⟩) Ak _).far (p:=⟨w.heap.size,1,none⟩) Ak _
   exact bS (bS (bS (bS Bd (p:=⟨w.heap.size,0,none⟩) (Dh _) _) (p:=⟨w.heap.size,1,none⟩) (Dh _) _) (p:=⟨w.heap.size+1,0,none⟩) (aDp _) _) (p:=⟨w.heap.size+1,1,none⟩) (aDp _) _
  have z:=V (show Zr m s t=q by rw[<-Hq.1,AX hsw]);go_wp2;go_meet;exact⟨s,t,Ks.1,Kt.1,AO.drew X3,AO.drew T,z.1,hsk,htk,Bd⟩
 obtain⟨a,b,Ka,Kb,X3',X4',z,ha,hb,Bc⟩:=hcut;have Hf:=V z;replace Ka:=V Ka;replace Kb:=V Kb;clear X3 T E5 Em Ew Bg Bq CP Y1 Y2 tZ tq tu uD uF uG uH uI iF iG iH iI iJ iK iL iM z Bd Bw;have Y1:=(Ka.1.keep Bc).line;try clear anw anx apN
 try clear azJ azK
 obtain⟨anw,anx,apN,-⟩:=X3'.BL;try clear apO apP apQ
 try clear azL azM
 obtain⟨apO,apP,apQ,-⟩:=X4'.BL;try clear tZ tq tu uD uF uG uH uI
 obtain⟨tZ,tq,tu,uD,uF,uG,uH,uI,-⟩:=Y1.iD;have rG:=DR<|(a.k:Int)+1;have TF:∀W,Calls prog 232 #[Ii a] W _:=λW=>agL a W;have TL:∀W,AU w W->Calls prog 233 #[Ii b] W _:=λW hW=>agM b W<|Kb.1.keep hW;unfold Ii at TF TL;have zN:=TF;have zO:=TL;have q1:0<=(a.k:Int):=I;cases h1:(a.k:Int)+1==(b.k:Int);case true=>
  have z:=V (show(m==1)=q by rw[<-Hf.1,Zr,AZ];have:=eq_of_beq h1;simp only[tY,LW,DI];left;omega);clear TF TL zN zO;go_upto_region 7 with fail;refine CZ wc (.run 29 0 0<|.done) λCG QR Ae Aj hS=>?_;iterate 7 refine Ah ?_
  iterate 21 refine Iu ?_
  refine Ah ?_;refine CX ?_;clear hS Aj Ae;intro hB;go_wp2;go_ret;exact⟨Cm z.1,J Bc hB⟩
 have hk:¬a.k+1=b.k:=by have:=ne_of_beq_false h1;omega
 cases h2:a.ln.arc.fr==a.ln.arc.dst;case false=>
  have z:=V (show(m==0)=q by rw[<-Hf.1,Zr,AX];simp only[tY,h2,GX hk];simp);clear TF TL zN zO;go_upto_region 7 with fail;refine CZ wc (.run 29 0 0<|.done) λCG QR Ae Aj hS=>?_;iterate 7 refine Ah ?_
  iterate 14 refine DT ?_
  iterate 2 refine Iu ?_
  iterate 2 refine DT ?_
  iterate 2 refine Iu ?_
  refine DT ?_;refine Ah ?_;refine CX ?_;clear hS Aj Ae;intro hB;go_wp2;go_ret;exact⟨Cm z.1,J Bc hB⟩
 cases h3:(a.k:Int)==0;case false=>
  rw[h3]at TF;have HF:=V TF;have z:=V (show(m==0)=q by
   have h3':¬a.k=0:=by have:=ne_of_beq_false h3;omega
   rw[<-Hf.1,Zr,AX];simp only[tY,h2,GX hk,GX h3'];simp);clear TF TL zN zO h3;go_upto_region 7 with fail;refine CZ wc (.run 22 0 0<|.call 22 8388607<|.run 6 23 8388607<|.done) λCG QR Ae Aj hS=>?_;iterate 7 refine Ah ?_
  iterate 15 refine DT ?_
  refine FM (HF.1 _) ?_;clear hS;intro Bv Bj hS;iterate 2 refine DT ?_
  iterate 2 refine Iu ?_
  refine DT ?_;refine Ah ?_;refine CX ?_;clear hS Aj Ae;intro hB;go_wp2;go_ret;exact⟨Cm z.1,J Bc hB⟩
 rw[h3]at TF;have HF:=V TF;cases h4:(b.k:Int)==(b.ln.path.length:Int)-2;case false=>
  rw[h4]at TL;have HL:=V TL;have z:=V (show(m==0)=q by have h4':=ne_of_beq_false h4;rw[<-Hf.1,Zr,AX];simp only[tY,GX hk,GX h4'];simp);clear TF TL zN zO h3 h4;go_upto_region 7 with fail;refine CZ wc (.run 22 0 0<|.call 22 8388607<|.run 3 23 8388607<|.call 26 134217727<|.take 27 268435455<|.take 28 536870911<|.done) λCG QR Ae Aj hS=>?_;iterate 7 refine Ah ?_
  iterate 15 refine DT ?_
  refine FM (HF.1 _) ?_;clear hS;intro Bv Bj hS;iterate 3 refine DT ?_
  refine FM (HL.1 _<|J Bc hS) ?_;clear hS;intro wr2 F5 hS;refine DT ?_;refine Ah ?_;refine CX ?_;clear hS Aj Ae;intro hB;go_wp2;go_ret;exact⟨Cm z.1,J Bc hB⟩
 rw[h4]at TL;have HL:=V TL;have z:=V (show(m==1)=q by
  have h3':a.k=0:=by have:=eq_of_beq h3;omega
  have h4':=eq_of_beq h4;rw[<-Hf.1,Zr,AZ];simp only[tY,h2,Ia h3',Ia h4'];simp);clear TF TL zN zO h3 h4;go_upto_region 7 with fail;refine CZ wc (.run 22 0 0<|.call 22 8388607<|.run 3 23 8388607<|.call 26 134217727<|.take 27 268435455<|.take 28 536870911<|.done) λCG QR Ae Aj hS=>?_;iterate 7 refine Ah ?_
 iterate 15 refine DT ?_
 refine FM (HF.1 _) ?_;clear hS;intro Bv Bj hS;iterate 3 refine DT ?_
 refine FM (HL.1 _<|J Bc hS) ?_;clear hS;intro wr2 F5 hS;refine DT ?_;refine Ah ?_;refine CX ?_;clear hS Aj Ae;intro hB;go_wp2;go_ret;exact⟨Cm z.1,J Bc hB⟩
