import Derived.Test.YtngoejdlompfoaaGreatGD
set_option linter.unusedSimpArgs false
set_option linter.unusedVariables false
set_option maxRecDepth 100000
set_option maxHeartbeats 2000000
namespace Go.Proofs.YtngoejdlompfoaaGreat
open Go.RowKit Tryz
def nodeAt(p:Pl)(id:Int):Pt:=((JW p.nodes id).getD nd0).pt
def AV(p:Pl)(a:Ar):List Pt:=nodeAt p a.fr::(a.via++[nodeAt p a.dst])
def KD(p:Pl)(a:Ar):Bool:=(JW p.nodes a.fr).isSome&&(JW p.nodes a.dst).isSome
def aaz(w:World)(l:List Pt)(b:Bool)(e:Ending)(w':World):Prop:=∃v,e=.returned (.tuple #[v,.bool b])/\AU w w'/\Own w' w.heap.size 50 2 Ep v l
theorem ab1(v va:Value)(p:Pl)(a:Ar)(w:World)(h:Cj w v p)(ha:EL w va a.via)(hs:a.via.length<=1048576):Calls prog 141 #[v,rH a va] w<|aaz w (AV p a)<|KD p a:=by
 have HP:=V h;have HA:=V ha;obtain⟨vn,vr,vf,al,rfl,-⟩:=h;obtain⟨A,c,rfl,-⟩:=ha;have TN:∀id W,AU w W->Calls prog 195 #[.agg #[vn,vr,vf],.int .i64 id] W _:=λid W hW=>afB _ p id W<|HP.1.mono hW;simp only[nV,yX]at TN;have HN:=V TN;clear TN;unfold rH;go_enter func141,ntmps141;go_wp2_with fail;refine(HN.1 a.fr _<|bA (bA (bR w) _) _).mono ?_;rintro e w1⟨rfl,hb1⟩;have z:AU w w1:=by exact ER
 have X2:AO _ w.heap.size 26 #[vn,vr,vf]:=AO.keep (by repeat(first|exact AO.made Ak _ _|refine AO.alloc ?_ _)) hb1;have X3:AO _ (w.heap.size+1) 31 #[.int .i64 a.id,.int .i64 a.fr,.int .i64 a.dst,.slice A a.via.length c,.int .i64 a.left,.int .i64 a.right]:=AO.keep (by repeat(first|exact AO.made Ak _ _|refine AO.alloc ?_ _)) hb1;clear hb1;generalize hn1:(JW p.nodes a.fr).getD nd0=C at*;generalize hs1:(JW p.nodes a.fr).isSome=s1 at*;have rD:=V hn1;have iU:=V hs1;clear hn1 hs1;obtain⟨BX,Bf,Bh,CS,-⟩:=X2.BF;obtain⟨E5,Em,Ew,MV,MH,Qu,Qn,-⟩:=X3.J9;go_wp2_with fail;refine(HN.1 a.dst _<|bA z _).mono ?_;rintro e w2⟨rfl,hb2⟩;have X6:AO w2 w1.heap.size 56 #[.int .i64 C.id,.int .i64 C.pt.x,.int .i64 C.pt.y]:=(AO.made rfl _ _).keep hb2;replace X3:=(X3.alloc _).keep hb2;replace z:AU w w2:=J (bA z _) hb2;clear hb2 X2 BX Bf Bh CS;generalize hn2:(JW p.nodes a.dst).getD nd0=M at*;generalize hs2:(JW p.nodes a.dst).isSome=s2 at*;have rE:=V hn2;have iV:=V hs2;clear hn2 hs2;try clear E5 Em Ew MV MH Qu Qn
 obtain⟨E5,Em,Ew,MV,MH,Qu,Qn,-⟩:=X3.J9;obtain⟨EW,EX,EY,Ov,-⟩:=X6.BF;go_upto_region 3 with fail;obtain⟨o,hW3⟩:=BR<|w2.alloc<|.cells #[.int .i64 M.id,.int .i64 M.pt.x,.int .i64 M.pt.y] 56;have X8:AO o w2.heap.size 56 #[.int .i64 M.id,.int .i64 M.pt.x,.int .i64 M.pt.y]:=by rw[hW3];exact AO.made rfl _ _
 have hb3:AU w2 o:=by rw[hW3];exact bA (bR w2) _
 rw[<-hW3];clear hW3;replace X3:=X3.keep hb3;replace X6:=X6.keep hb3;replace z:AU w o:=J z hb3;clear hb3;try clear E5 Em Ew MV MH Qu Qn
 obtain⟨E5,Em,Ew,MV,MH,Qu,Qn,-⟩:=X3.J9;try clear EW EX EY Ov
 obtain⟨EW,EX,EY,Ov,-⟩:=X6.BF;obtain⟨Ox,Oy,Oz,aA9,-⟩:=X8.BF;go_cut[4,5]λs t wx=>Own wx w.heap.size 50 2 Ep s (C.pt::(a.via++[M.pt]))/\t=.bool (s1&&s2)/\AU w wx;case first=>
  cases s1
  .refine CZ o (.take 0 1<|.take 1 3<|.take 3 11<|.take 4 27<|.take 6 91<|.take 7 219<|.take 10 1243<|.two 2 1247 (.two 5 1279 (.call 8 1535<|.call 9 2047<|.run 5 11 2047<|.done) 8 1503<|.call 5 1535<|.call 9 2047<|.run 5 11 2047<|.done) 8 1499<|.call 2 1503<|.call 5 1535<|.call 9 2047<|.run 5 11 2047<|.done) λCG QR Ae Aj hS=>?_;iterate 7 refine Ah ?_
   refine QJ (i:=2) (j:=8) (FD Ae rfl) (FD Ae rfl) (λK hK=>?_) λK hK=>?_
   .have AQ:=V hS;clear hS;refine Fp (Fb rfl) ?_;go_simp;refine hK.out _ _ (bA AQ.out _) λhS=>?_;clear hK K AQ;try simp only[pu]
    refine QJ (i:=5) (j:=8) (FD Ae rfl) (FD Ae rfl) (λK hK=>?_) λK hK=>?_
    .have AQ:=V hS;clear hS;refine Fp (Fb rfl) ?_;refine Ir (.tmp 26) (.tmp 28) _ rfl (base:=o.heap.size) (l:=[C.pt]) LZ LK La rfl ?_ rfl (HA.1.mono<|J z AQ.out) DY DY (Below.size AQ.out) ?_;.first|exact Own.lit _ _ _ _ Ep [C.pt] _ 1 _ Ak rfl Ak (DC I) rfl rfl|exact(Own.lit _ _ _ _ Ep [C.pt] _ 1 _ Ak rfl Ak (DC I) rfl rfl).alloc _
     intro v5 T Dq hg5 IE;have hS:Since o T:=bG (w:=o) AQ.out hg5 (λg hk=>by have:=Dn hk;simp at this;omega);clear AQ;refine hK.out _ _ hS λ_=>?_;clear hK K;try simp only[pu]
     refine BP ?_;clear hS;intro K hK AQ;go_simp;refine hK.out _ _ (bA AQ.out _) λhS=>?_;clear hK K AQ;try simp only[pu]
     refine BP ?_;clear hS;intro K hK AQ;refine Ir (.tmp 29) (.tmp 32) _ rfl (base:=o.heap.size) (l2:=[M.pt]) LZ LK La rfl xU rfl ?_ Xc Xc (Below.size AQ.out) ?_;.first|exact EL.one<|AO.made Ak _ _|exact EL.one<|(AO.made Ak _ _).drew.grown hg5<|λe=>by have:=Dn e;simp at this|exact EL.one<|((AO.made Ak _ _).alloc _).drew.grown hg5<|λe=>by have:=Dn e;simp at this
     intro v9 U LU MF YQ;have hS:Since o U:=bG (w:=o) AQ.out MF λg hk=>(Dq.lt g hk).1;clear AQ;refine hK.out _ _ hS λ_=>?_;clear hK K;try simp only[pu]
     refine Ah ?_;refine Iu ?_;iterate 3 refine Ah ?_
     refine CX ?_;clear hS Aj Ae;intro hB;go_wp2;go_meet;exact⟨LU.EN z.size,rfl,J z hB⟩
    have AQ:=V hS;clear hS;refine Fp (Fb rfl) ?_;go_simp;refine hK.out _ _ (bA AQ.out _) λhS=>?_;clear hK K AQ;try simp only[pu]
    refine BP ?_;clear hS;intro K hK AQ;refine Ir (.tmp 26) (.tmp 28) _ rfl (base:=o.heap.size) (l:=[C.pt]) LZ LK La rfl ?_ rfl (HA.1.mono<|J z AQ.out) DY DY (Below.size AQ.out) ?_;.first|exact Own.lit _ _ _ _ Ep [C.pt] _ 1 _ Ak rfl Ak (DC I) rfl rfl|exact(Own.lit _ _ _ _ Ep [C.pt] _ 1 _ Ak rfl Ak (DC I) rfl rfl).alloc _
    intro v5 T Dq hg5 IE;have hS:Since o T:=bG (w:=o) AQ.out hg5 (λg hk=>by have:=Dn hk;simp at this;omega);clear AQ;refine hK.out _ _ hS λ_=>?_;clear hK K;try simp only[pu]
    refine BP ?_;clear hS;intro K hK AQ;refine Ir (.tmp 29) (.tmp 32) _ rfl (base:=o.heap.size) (l2:=[M.pt]) LZ LK La rfl xU rfl ?_ Xc Xc (Below.size AQ.out) ?_;.first|exact EL.one<|AO.made Ak _ _|exact EL.one<|(AO.made Ak _ _).drew.grown hg5<|λe=>by have:=Dn e;simp at this|exact EL.one<|((AO.made Ak _ _).alloc _).drew.grown hg5<|λe=>by have:=Dn e;simp at this
    intro v9 U LU MF YQ;have hS:Since o U:=bG (w:=o) AQ.out MF λg hk=>(Dq.lt g hk).1;clear AQ;refine hK.out _ _ hS λ_=>?_;clear hK K;try simp only[pu]
    refine Ah ?_;refine Iu ?_;iterate 3 refine Ah ?_
    refine CX ?_;clear hS Aj Ae;intro hB;go_wp2;go_meet;exact⟨LU.EN z.size,rfl,J z hB⟩
   have AQ:=V hS;clear hS;refine Fp (Fb rfl) ?_;go_simp;refine hK.out _ _ (bA AQ.out _) λhS=>?_;clear hK K AQ;try simp only[pu]
   refine BP ?_;clear hS;intro K hK AQ;go_simp;refine hK.out _ _ (bA AQ.out _) λhS=>?_;clear hK K AQ;try simp only[pu]
   refine BP ?_;clear hS;intro K hK AQ;refine Ir (.tmp 26) (.tmp 28) _ rfl (base:=o.heap.size) (l:=[C.pt]) LZ LK La rfl ?_ rfl (HA.1.mono<|J z AQ.out) DY DY (Below.size AQ.out) ?_;.first|exact Own.lit _ _ _ _ Ep [C.pt] _ 1 _ Ak rfl Ak (DC I) rfl rfl|exact(Own.lit _ _ _ _ Ep [C.pt] _ 1 _ Ak rfl Ak (DC I) rfl rfl).alloc _
   intro v5 T Dq hg5 IE;have hS:Since o T:=bG (w:=o) AQ.out hg5 (λg hk=>by have:=Dn hk;simp at this;omega);clear AQ;refine hK.out _ _ hS λ_=>?_;clear hK K;try simp only[pu]
   refine BP ?_;clear hS;intro K hK AQ;refine Ir (.tmp 29) (.tmp 32) _ rfl (base:=o.heap.size) (l2:=[M.pt]) LZ LK La rfl xU rfl ?_ Xc Xc (Below.size AQ.out) ?_;.first|exact EL.one<|AO.made Ak _ _|exact EL.one<|(AO.made Ak _ _).drew.grown hg5<|λe=>by have:=Dn e;simp at this|exact EL.one<|((AO.made Ak _ _).alloc _).drew.grown hg5<|λe=>by have:=Dn e;simp at this
   intro v9 U LU MF YQ;have hS:Since o U:=bG (w:=o) AQ.out MF λg hk=>(Dq.lt g hk).1;clear AQ;refine hK.out _ _ hS λ_=>?_;clear hK K;try simp only[pu]
   refine Ah ?_;refine Iu ?_;iterate 3 refine Ah ?_
   refine CX ?_;clear hS Aj Ae;intro hB;go_wp2;go_meet;exact⟨LU.EN z.size,rfl,J z hB⟩
  refine CZ o (.take 0 1<|.take 1 3<|.take 3 11<|.take 4 27<|.take 6 91<|.take 7 219<|.take 10 1243<|.two 2 1247 (.two 5 1279 (.call 8 1535<|.call 9 2047<|.run 5 11 2047<|.done) 8 1503<|.call 5 1535<|.call 9 2047<|.run 5 11 2047<|.done) 8 1499<|.call 2 1503<|.call 5 1535<|.call 9 2047<|.run 5 11 2047<|.done) λCG QR Ae Aj hS=>?_;iterate 7 refine Ah ?_
  refine QJ (i:=2) (j:=8) (FD Ae rfl) (FD Ae rfl) (λK hK=>?_) λK hK=>?_
  .have AQ:=V hS;clear hS;refine Fp (Fb rfl) ?_;go_simp;refine hK.out _ _ (bA AQ.out _) λhS=>?_;clear hK K AQ;try simp only[pu]
   refine QJ (i:=5) (j:=8) (FD Ae rfl) (FD Ae rfl) (λK hK=>?_) λK hK=>?_
   .have AQ:=V hS;clear hS;refine Fp (Fb rfl) ?_;refine Ir (.tmp 26) (.tmp 28) _ rfl (base:=o.heap.size) (l:=[C.pt]) LZ LK La rfl ?_ rfl (HA.1.mono<|J z AQ.out) DY DY (Below.size AQ.out) ?_;.first|exact Own.lit _ _ _ _ Ep [C.pt] _ 1 _ Ak rfl Ak (DC I) rfl rfl|exact(Own.lit _ _ _ _ Ep [C.pt] _ 1 _ Ak rfl Ak (DC I) rfl rfl).alloc _
    intro v5 T Dq hg5 IE;have hS:Since o T:=bG (w:=o) AQ.out hg5 (λg hk=>by have:=Dn hk;simp at this;omega);clear AQ;refine hK.out _ _ hS λ_=>?_;clear hK K;try simp only[pu]
    refine BP ?_;clear hS;intro K hK AQ;go_simp;refine hK.out _ _ (bA AQ.out _) λhS=>?_;clear hK K AQ;try simp only[pu]
    refine BP ?_;clear hS;intro K hK AQ;refine Ir (.tmp 29) (.tmp 32) _ rfl (base:=o.heap.size) (l2:=[M.pt]) LZ LK La rfl xU rfl ?_ Xc Xc (Below.size AQ.out) ?_;.first|exact EL.one<|AO.made Ak _ _|exact EL.one<|(AO.made Ak _ _).drew.grown hg5<|λe=>by have:=Dn e;simp at this|exact EL.one<|((AO.made Ak _ _).alloc _).drew.grown hg5<|λe=>by have:=Dn e;simp at this
    intro v9 U LU MF YQ;have hS:Since o U:=bG (w:=o) AQ.out MF λg hk=>(Dq.lt g hk).1;clear AQ;refine hK.out _ _ hS λ_=>?_;clear hK K;try simp only[pu]
    refine Ah ?_;refine DT ?_;iterate 3 refine Ah ?_
    refine CX ?_;clear hS Aj Ae;intro hB;go_wp2;go_meet;exact⟨LU.EN z.size,rfl,J z hB⟩
   have AQ:=V hS;clear hS;refine Fp (Fb rfl) ?_;go_simp;refine hK.out _ _ (bA AQ.out _) λhS=>?_;clear hK K AQ;try simp only[pu]
   refine BP ?_;clear hS;intro K hK AQ;refine Ir (.tmp 26) (.tmp 28) _ rfl (base:=o.heap.size) (l:=[C.pt]) LZ LK La rfl ?_ rfl (HA.1.mono<|J z AQ.out) DY DY (Below.size AQ.out) ?_;.first|exact Own.lit _ _ _ _ Ep [C.pt] _ 1 _ Ak rfl Ak (DC I) rfl rfl|exact(Own.lit _ _ _ _ Ep [C.pt] _ 1 _ Ak rfl Ak (DC I) rfl rfl).alloc _
   intro v5 T Dq hg5 IE;have hS:Since o T:=bG (w:=o) AQ.out hg5 (λg hk=>by have:=Dn hk;simp at this;omega);clear AQ;refine hK.out _ _ hS λ_=>?_;clear hK K;try simp only[pu]
   refine BP ?_;clear hS;intro K hK AQ;refine Ir (.tmp 29) (.tmp 32) _ rfl (base:=o.heap.size) (l2:=[M.pt]) LZ LK La rfl xU rfl ?_ Xc Xc (Below.size AQ.out) ?_;.first|exact EL.one<|AO.made Ak _ _|exact EL.one<|(AO.made Ak _ _).drew.grown hg5<|λe=>by have:=Dn e;simp at this|exact EL.one<|((AO.made Ak _ _).alloc _).drew.grown hg5<|λe=>by have:=Dn e;simp at this
   intro v9 U LU MF YQ;have hS:Since o U:=bG (w:=o) AQ.out MF λg hk=>(Dq.lt g hk).1;clear AQ;refine hK.out _ _ hS λ_=>?_;clear hK K;try simp only[pu]
   refine Ah ?_;refine DT ?_;iterate 3 refine Ah ?_
   refine CX ?_;clear hS Aj Ae;intro hB;go_wp2;go_meet;exact⟨LU.EN z.size,rfl,J z hB⟩
  have AQ:=V hS;clear hS;refine Fp (Fb rfl) ?_;go_simp;refine hK.out _ _ (bA AQ.out _) λhS=>?_;clear hK K AQ;try simp only[pu]
  refine BP ?_;clear hS;intro K hK AQ;go_simp;refine hK.out _ _ (bA AQ.out _) λhS=>?_;clear hK K AQ;try simp only[pu]
  refine BP ?_;clear hS;intro K hK AQ;refine Ir (.tmp 26) (.tmp 28) _ rfl (base:=o.heap.size) (l:=[C.pt]) LZ LK La rfl ?_ rfl (HA.1.mono<|J z AQ.out) DY DY (Below.size AQ.out) ?_;.first|exact Own.lit _ _ _ _ Ep [C.pt] _ 1 _ Ak rfl Ak (DC I) rfl rfl|exact(Own.lit _ _ _ _ Ep [C.pt] _ 1 _ Ak rfl Ak (DC I) rfl rfl).alloc _
  intro v5 T Dq hg5 IE;have hS:Since o T:=bG (w:=o) AQ.out hg5 (λg hk=>by have:=Dn hk;simp at this;omega);clear AQ;refine hK.out _ _ hS λ_=>?_;clear hK K;try simp only[pu]
  refine BP ?_;clear hS;intro K hK AQ;refine Ir (.tmp 29) (.tmp 32) _ rfl (base:=o.heap.size) (l2:=[M.pt]) LZ LK La rfl xU rfl ?_ Xc Xc (Below.size AQ.out) ?_;.first|exact EL.one<|AO.made Ak _ _|exact EL.one<|(AO.made Ak _ _).drew.grown hg5<|λe=>by have:=Dn e;simp at this|exact EL.one<|((AO.made Ak _ _).alloc _).drew.grown hg5<|λe=>by have:=Dn e;simp at this
  intro v9 U LU MF YQ;have hS:Since o U:=bG (w:=o) AQ.out MF λg hk=>(Dq.lt g hk).1;clear AQ;refine hK.out _ _ hS λ_=>?_;clear hK K;try simp only[pu]
  refine Ah ?_;refine DT ?_;iterate 3 refine Ah ?_
  refine CX ?_;clear hS Aj Ae;intro hB;go_wp2;go_meet;exact⟨LU.EN z.size,rfl,J z hB⟩
 obtain⟨hown,rfl,sF⟩:=hcut;go_wp2_with fail;go_ret2;refine⟨_,by rw[KD,iU.1,iV.1];rfl,sF,?_⟩;rw[AV,nodeAt,nodeAt,rD.1,rE.1];exact hown
def pathOf(p:Pl)(id:Int):Option<|List Pt:=match findAr p.AP id with|some a=>if KD p a then some<|AV p a else none|none=>none
def ng(w:World)(r:Option<|List Pt)(e:Ending)(w':World):Prop:=∃A c,e=.returned (.tuple #[.slice A (r.getD []).length c,.int .i64<|if r.isSome then 0 else 7])/\AU w w'/\Own w' w.heap.size 50 2 Ep (.slice A (r.getD []).length c) (r.getD [])
theorem aCy{l:List Ar}{id:Int}{a:Ar}(h:findAr l id=some a):a∈l:=Vz h
theorem agA(v:Value)(p:Pl)(id:Int)(w:World)(h:Cj w v p)(s:Short p):Calls prog 113 #[v,.int .i64 id] w<|ng w<|pathOf p id:=by
 have U:=V h;have DN:=V s;clear s;obtain⟨vn,vr,vf,al,rfl,-⟩:=h;obtain⟨q,M⟩:=BM<|pathOf p id;rw[M];have T:=V M;clear M;go_enter func113,ntmps113;go_wp2_with fail;refine(amy _ p id _ (U.1.mono<|bA (bR w) _) DN.1).mono ?_;rintro e w1⟨v1,rfl,z,C⟩;have o:AU w w1:=by exact ER
 have X2:AO _ w.heap.size 26 #[vn,vr,vf]:=AO.keep (by repeat(first|exact AO.made Ak _ _|refine AO.alloc ?_ _)) z;clear z;have iW:=V C;obtain⟨A1,c1,rfl,-⟩:=C;generalize hr:findAr p.AP id=r at*;have Hr:=V hr;clear hr;obtain⟨BX,Bf,Bh,CS,-⟩:=X2.BF;cases r with|none=>simp only[yF,lI,rH];have j:=V (show q=none by rw[<-T.1,pathOf,Hr.1]);go_wp2_with fail;go_ret2;refine⟨none,0,by rw[j.1];rfl,?_,by rw[j.1];exact Own.nil _ _ _ _ _⟩;exact ER|some a=>
  simp only[I7,Xh,rH]at iW⊢;have hs:=V<|DN.1 a<|aCy Hr.1;go_wp2_with fail;refine(ab1 _ _ p a _ (U.1.mono<|bA o _) (iW.1.mono<|bA (bR w1) _) hs.1).mono ?_;rintro e w2⟨v2,rfl,hb2,c⟩;replace c:=c.EN (b':=w.heap.size) (by have:=o.size;simp;omega);replace o:AU w w2:=J (bA o _) hb2;obtain⟨A2,c2,rfl,-⟩:=Own.sl c;have F7:=V c;clear hb2 c X2 BX Bf Bh CS;cases K:KD p a;.have j:=V (show q=none by rw[<-T.1,pathOf,Hr.1];simp[K]);clear K;go_wp2_with fail;go_ret2;exact⟨none,0,by rw[j.1];rfl,o,by rw[j.1];exact Own.nil _ _ _ _ _⟩
  .have j:=V (show q=some (AV p a)by rw[<-T.1,pathOf,Hr.1];simp[K]);clear K;go_wp2_with fail;go_ret2;exact⟨A2,c2,by rw[j.1];rfl,o,by rw[j.1];exact F7.1⟩
