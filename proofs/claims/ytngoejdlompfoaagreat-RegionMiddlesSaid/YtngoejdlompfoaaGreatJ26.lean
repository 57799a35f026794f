import Derived.Test.YtngoejdlompfoaaGreatJ25
set_option linter.unusedSimpArgs false
set_option linter.unusedVariables false
set_option maxRecDepth 100000
set_option maxHeartbeats 8000000
namespace Go.Proofs.YtngoejdlompfoaaGreat
open Go.RowKit Go.Sort Tryz
structure Yp(w:World)(B g1 g2 g3:Nat)(y:Int)(S:List<|Pt×Pt)(T:List Rn)(w2 W:World):Prop where
 st:∃vt vc,V3 W B g1 g2 g3 y (S.flatMap (Ll y)++T) (S.flatMap<|IG y) vt vc
 kept:Jm B g2 g3 w2 W
 below:AU w W
theorem Yp.drew{w:World}{B c g2 g3:Nat}{y:Int}{S:List<|Pt×Pt}{T:List Rn}{w2 W:World}(h:Yp w B c g2 g3 y S T w2 W):Yp w B c g2 g3 y S T w2 W.drew:=by obtain⟨⟨j,o,s⟩,hk,hb⟩:=h;exact⟨⟨j,o,s.keep<|bD<|bR W⟩,hk.trans ⟨λw0 k _ _ _=>bD k,Dh _,λ_ _ _ _=>rfl⟩,bD hb⟩
theorem Jm.base{B g2 g3:Nat}{w W c:World}(h:Jm B g2 g3 W c)(hb:AU w W)(j:w.heap.size<=B)(o:w.heap.size<=g2)(s:w.heap.size<=g3):Below w.heap.size W c:=by have b:=h.below w hb j o s;exact⟨b.os.trans hb.os.symm,b.tape.trans hb.tape.symm,b.output.trans hb.output.symm,h.size,λk hk=>h.blk k (IQ hk j) I I⟩
theorem awn(w w2:World)(K:Nat)(p:Pl)(f:Int->SV)(M:Qk w K p f)(hv:Valid p)(o:Value)(X:List Int)(hX:Ints w o X)(hd:∀d∈X,d∈BZ p)(B c g2 g3:Nat)(y:Int)(S:List<|Pt×Pt)(hl:S.length+(DV p X).length<=40000)(hB:B<=w2.heap.size)(T:c<B)(k1:w.heap.size<=B)(k2:w.heap.size<=g2)(k3:w.heap.size<=g3)(W:World)(h0:Yp w B c g2 g3 y S [] w2 W):Calls prog 95 #[.map<|some K,o,.func (.func 209) #[] #[.pointer<|some ⟨c,0,none⟩,.pointer<|some ⟨g2,0,none⟩,.pointer<|some ⟨g3,0,none⟩]] W λe U=>e=.returned (.tuple #[])/\Yp w B c g2 g3 y (S++DV p X) [] w2 U:=by
 refine(aw0 w K p f M hv o X hX hd c g2 g3 (λs W=>Yp w B c g2 g3 y (S++s) [] w2 W) (λs q=>s++[q]) (λs W h=>h.below) (λs W h=>h.drew) [] (λS0 W q r hs h=>?_) W ql).mono ?_
 .rw[foldl_snoc,Rj]at h⊢;obtain⟨⟨vt,o,z⟩,hk,hb⟩:=h;rw[I9]at z;have hq:q∈DV p X:=by rw[hs];simp
  have hlen:(S++S0).length<=40000:=by have:=congrArg List.length hs;simp only[EK,Gy]at this⊢;omega
  have l1:=pq (Ll y) (adR y)<|S++S0;have l2:=pq (IG y) (amA y)<|S++S0;obtain⟨a,ha,-,k,hk',rfl⟩:=hv.aAn hd hq;refine(aw7 _ _ (hv.aEZ ha I) (hv.aEZ ha hk') y B c g2 g3 _ _ vt o W z (Du hB hk.size) T I I).mono ?_;rintro e U⟨rfl,⟨vt',vc',C⟩,j⟩;refine⟨rfl,⟨⟨vt',vc',?_⟩,hk.trans j,j.below w hb k1 k2 k3⟩,j.base hb k1 k2 k3⟩;rw[I9,<-Jv,LY,LY];simpa using C
 rintro e U⟨rfl,h,-⟩;rw[foldl_snoc,Rj]at h;exact⟨rfl,h⟩
theorem Jm.own{B g2 g3:Nat}{W o:World}(h:Jm B g2 g3 W o){α:Type}{s:Nat}{e:TypeId}{n:Nat}{f:α->List Value}{v:Value}{l:List α}(ho:Own W s e n f v l)(C:W.heap.size<=B)(h1:v.ownBlock≠some g2)(h2:v.ownBlock≠some g3):Own o s e n f v l:=by
 obtain⟨h0,h3⟩:=ho;refine⟨h0,?_⟩;rcases h3 with h3|⟨q,j,c,rfl,a1,z,K⟩;.exact .inl h3
 exact .inr ⟨q,j,c,rfl,a1,Jm.keep h (cs:=c) z (IQ (AO.lt z) C) (λe=>h1 aO) λe=>h2 aO,K⟩
theorem Yp.step{w:World}{B c g2 g3:Nat}{y:Int}{S:List<|Pt×Pt}{T:List Rn}{w2 W j:World}(h:Yp w B c g2 g3 y S T w2 W)(o:B<=w2.heap.size)(hb:AU W j):Yp w B c g2 g3 y S T w2 j:=by obtain⟨⟨s,z,C⟩,hk,K⟩:=h;exact⟨⟨s,z,C.keep hb⟩,hk.trans<|Jm.of (Du o hk.size) hb,J K hb⟩
theorem ayH(v:Value)(p:Pl)(w:World)(h:Cj w v p)(hv:Valid p)(gm:Nat)(f:Int->SV)(hpm:Qk w gm p f)(x:AD)(b:Option<|List Int)(hb:b∈Ku p)(ho:Ints w (BO x.ov) x.out)(hi:Sl w (BO x.iv) x.inn.length<|x.inn.flatMap JL)(hc:∀c∈x.inn,Ints w (BO c.2) c.1)(ha:Ints w (BO x.av) x.Ci)(hcy:(Nz x).map (·.1)=GN p b)(hal:x.Ci=Sr p b)(y:Int):Calls prog 153 #[.map<|some gm,v,.agg #[.int .i64 x.tw,BO x.ov,BO x.iv,BO x.av],.int .i64 y] w<|aeK w<|Lr p b y:=by
 have hnl:=hv.bg;have hli:x.inn.length<=512:=by have e1:=congrArg List.length hcy;have h2:=NH (λc=>decide<|F8 p (MZ p c)=b)<|Gj p;have h3:(Gj p).length<=(CV p).length:=NH _ _;have h4:=hv.SX;unfold Nz GN Mc at e1;simp only[FB,Gy,D6]at e1;omega
 have hsl:=hv.amD hb;have hal2:x.Ci.length<=256:=by rw[hal];exact hv.axE b
 have Kw:=V λW(hW:AU w W)=>ace x W (hi.mono hW) I;have kE:=V λid W(hW:AU w W)=>aad v p id W<|h.mono hW;have Jy:=V (show∀c∈Nz x,Ints w (BO c.2) c.1 fromλc hc'=>by
  unfold Nz at hc';rcases Dv.1 hc' with rfl|hc';.exact ho
  exact hc c hc');obtain⟨Qx,ah,RD,OU,NJ⟩:=G9 @ahx (λid n(e:JW p.nodes id=some n)=>hv.ajL<|Vz e) hsl @ave λw2 vc X hX hd B g1 g2 g3 S hl hB hg1 k1 k2 k3 W h0=>awn w w2 gm p f hpm hv vc X hX hd B g1 g2 g3 y S hl hB hg1 k1 k2 k3 W h0;obtain⟨CL,hCL⟩:=BM<|Nz x;obtain⟨C,hC⟩:=BM<|GN p b;have hll:CL.length<=513:=by rw[<-hCL];unfold Nz;rw[Gy];omega
 rw[hCL]at Kw Jy hcy;rw[hC]at hcy;have hcd:∀c∈C,∀d∈c,d∈BZ p:=λc hc=>by rw[<-hC]at hc;exact hv.amC hb hc
 have HCd:=V hcd;have HMp:=V hcy;have hlc:C.length=CL.length:=by rw[<-hcy,D6]
 have HSB:=V (show FZ p b=Yv p C C.length by unfold FZ Yv;rw[hC,Gu]);have hle:∀k,(Yv p C k).length<=33280:=λk=>by
  have:=awf p C k;have e:C.flatMap (DV p)=FZ p b:=by unfold FZ;rw[hC]
  rw[e]at this;omega
 have aAy:=V hle;have aAz:=V hlc;obtain⟨R,hR⟩:=BM<|Lr p b y;have HR:=V<|show R=Ot (Qo<|Ju<|ZY<|(FZ p b).flatMap<|IG y) (Qo<|(FZ p b).flatMap (Ll y)++VG p b y)from hR.symm;rw[hR];obtain⟨Nv,qg,aCD⟩:=CB (show∀k,(x.Ci.take k).flatMap (Q7 p.nodes y)=((Sr p b).take k).flatMap (Q7 p.nodes y)fromλk=>by rw[hal]) (show VG p b y=x.Ci.flatMap (Q7 p.nodes y)by unfold VG;rw[hal]) ha;clear hCL hC hcy hcd hlc hle hR hal ho hi hc hpm hb hli hsl;obtain⟨_,_,_,al,rfl,-,⟨An,cn,rfl,-⟩,⟨⟨Aa,ca,rfl,-⟩,-⟩,⟨Af,cf,rfl,-⟩⟩:=h;obtain⟨tw,out,⟨oa,on,oc⟩,inn,⟨ia,IX,ic⟩,U,⟨aa,an,ac⟩⟩:=x;unfold BO at Kw ha⊢;simp only at Kw ha hal2 Nv qg aCD⊢;obtain⟨Ax,cx,he,-⟩:=ha;injection he with q1 q2 q3;subst q1 q2 q3;generalize hnn:p.nodes.length=nn at*;generalize al.length=na at*;generalize p.faces.length=nf at*;clear hv;go_enter func153,ntmps153;go_upto_region 4 with fail;obtain⟨W1,hW⟩:∃W:World,W=((((w.alloc<|.cells #[.slice An nn cn,.slice Aa na ca,.slice Af nf cf] 26).alloc<|.cells #[.int .i64 tw,.slice oa on oc,.slice ia IX ic,.slice aa U.length ac] 99).alloc<|.cells #[.int .i64 y] 3).alloc<|.cells #[.slice none 0 0] 24).alloc (.cells #[.slice none 0 0] 137):=⟨_,rfl⟩;have X5:AO W1 w.heap.size 26 #[.slice An nn cn,.slice Aa na ca,.slice Af nf cf]:=by rw[hW];exact((((AO.made rfl _ _).alloc _).alloc _).alloc _).alloc _
 have X6:AO W1 (w.heap.size+1) 99 #[.int .i64 tw,.slice oa on oc,.slice ia IX ic,.slice aa U.length ac]:=by rw[hW];exact(((AO.made Ak _ _).alloc _).alloc _).alloc _
 have X7:AO W1 (w.heap.size+1+1) 3 #[.int .i64 y]:=by rw[hW];exact((AO.made Ak _ _).alloc _).alloc _
 have X9:AO W1 (w.heap.size+1+1+1) 24 #[.slice none 0 0]:=by rw[hW];exact(AO.made Ak _ _).alloc _
 have MW:AO W1 (w.heap.size+1+1+1+1) 137 #[.slice none 0 0]:=by rw[hW];exact AO.made Ak _ _
 have hA:AU w W1:=by rw[hW];exact bA (bA (bA (bA (bA (bR w) _) _) _) _) _
 have hsz:W1.heap.size=w.heap.size+5:=by rw[hW];simp
 obtain⟨HA,D5,Ic,Jg,MJ,xG⟩:=Lp hA X5 X6 X7 X9 MW;rw[<-hW];clear hW hA;obtain⟨g5,h5⟩:∃g,w.heap.size=g:=⟨_,rfl⟩;obtain⟨g6,h6⟩:∃g,w.heap.size+1=g:=⟨_,rfl⟩;obtain⟨g7,h7⟩:∃g,w.heap.size+1+1=g:=⟨_,rfl⟩;obtain⟨g9,h9⟩:∃g,w.heap.size+1+1+1=g:=⟨_,rfl⟩;obtain⟨g11,h11⟩:∃g,w.heap.size+1+1+1+1=g:=⟨_,rfl⟩;have hn:w.heap.size<=g5/\g5<g6/\g6<g7/\g7<g9/\g9<g11/\g11<W1.heap.size:=I;rw[h11]at MW xG⊢;rw[h9]at X9 MJ⊢;rw[h7]at X7 Jg⊢;rw[h6]at X6 Ic⊢;rw[h5]at X5 D5⊢;clear h5 h6 h7 h9 h11;obtain⟨EW,EX,EY,Ov,Ub,-⟩:=X6.MC;go_wp2_with fail;refine(Kw.1 _ HA.1).mono ?_;rintro e w2⟨⟨Ac,cc,rfl,hown⟩,hb2⟩;obtain⟨HO,HB2,xH⟩:=CB hown (J HA.1 hb2)<|show V3 w2 w2.heap.size g7 g11 g9 y [] [] (.slice none 0 0)<|.slice none 0 0 from⟨Jg.1.keep hb2,⟨xG.1.keep hb2,Own.nil _ _ _ _ _⟩,⟨MJ.1.keep hb2,Own.nil _ _ _ _ _⟩⟩;have hs2:=hb2.size;replace D5:=V<|D5.1.keep hb2;replace Ic:=V<|Ic.1.keep hb2;have hw2:w.heap.size<=w2.heap.size:=I;clear hb2 hown Kw HA Jg MJ xG X5 X6 EW EX EY Ov Ub X7 X9 MW;go_upto_block 0 with fail;go_wp2_with fail;go_loopw[24](λi wr=>∃k:Nat,k<=CL.length/\i=.int .i64 k/\Yp w w2.heap.size g7 g11 g9 y (Yv p C k) [] w2 wr)λi _=>CL.length-(intOf i).toNat;case atStart=>exact⟨0,C9 _,rfl,⟨⟨_,_,xH.1⟩,Jm.refl _ _ _ _,HB2.1⟩⟩
 obtain⟨k,hk,rfl,hr⟩:=hrel;obtain⟨wo,rfl⟩:=BR wr;have MB:=V hr;clear hr xH;by_cases hlt:k<CL.length
 .have hOr:=MB.1.kept.own HO.1 (Dh _) λe=>by have:=(HO.1.lt g11 e).1;omega (λe=>by have:=(HO.1.lt g9 e).1;omega);obtain⟨A',c',he,-,-,J6⟩:=hOr.sl;injection he with q1 q2 q3;subst q1 q3;clear q2;obtain⟨b',o',rfl,hlb,c0⟩:=J6.cy hlt;have hkC:k<C.length:=by rw[aAz.1];exact hlt
  have hCk:=ak HMp.1 hlt hkC;have hcs:=awe p hkC;have hl1:=aAy.1<|k+1;have hii:=Jy.1 _<|BG hlt;have hdd:=HCd.1 _<|BG hkC;rw[hCk]at hcs hdd;rw[hcs,EK]at hl1;have HC:=V λW h0=>NJ.1 w2 _ _ hii hdd w2.heap.size g7 g11 g9 (Yv p C k) I (Dh _) I hw2 I I W h0;generalize CL[k]=X at*;obtain⟨X,⟨sa,sn,sc⟩⟩:=X;unfold BO at HC;simp only at c0 HC hcs;have HCs:=V hcs;clear hOr J6 hii hdd hCk hkC hcs hl1;go_wp2_with fail;refine(HC.1 _ MB.1).mono ?_;rintro e w4⟨rfl,hr2⟩;have HR2:=V hr2;clear hr2;go_wp2;go_roundw;case rel=>exact⟨k+1,I,BH,by rw[HCs.1];exact HR2.1⟩
  exact BJ
 obtain rfl:k=CL.length:=I;have fC:=MB.1;rw[<-aAz.1,<-HSB.1]at fC;have HR1:=V fC;clear fC MB;have hw3:=HR1.1.kept.size;have X6:=HR1.1.kept.keep Ic.1 I I I;obtain⟨wA,rfl⟩:=BR wo;clear NJ Jy HCd HMp aAy HO HSB HB2 Ic;try clear EW EX EY Ov Ub
 obtain⟨EW,EX,EY,Ov,Ub,-⟩:=X6.MC;go_upto_block 2 with fail;clear X6 EW EX EY Ov Ub;go_wp2_with fail;go_loopw[36](λi wr=>∃k:Nat,k<=U.length/\i=.int .i64 k/\Yp w w2.heap.size g7 g11 g9 y (FZ p b) ((U.take k).flatMap<|Q7 p.nodes y) w2 wr)λi _=>U.length-(intOf i).toNat;case atStart=>exact⟨0,C9 _,rfl,HR1.1⟩
 obtain⟨k,hk,rfl,hr⟩:=hrel;obtain⟨wo,rfl⟩:=BR wr;have MB:=V hr;clear hr HR1;by_cases hlt:k<U.length
 .obtain⟨A',c',he,-,-,J6⟩:=aCD.1.mono MB.1.below;injection he with q1 q2 q3;subst q1 q3;clear q2;obtain⟨b',o',rfl,hlb,c0⟩:=J6.int hlt;have hts:(U.take<|k+1).flatMap (Q7 p.nodes y)=(U.take k).flatMap (Q7 p.nodes y)++Q7 p.nodes y U[k]:=by rw[Eu hlt,LY];simp
  obtain⟨o,hF⟩:=BM<|Q7 p.nodes y U[k];rw[hF]at hts;have HTs:=V hts;have hlen:((U.take k).flatMap<|Q7 p.nodes y).length<=256:=by have:=pq (Q7 p.nodes y) (amB p.nodes y)<|U.take k;rw[JF]at this;omega
  clear hts J6;unfold Q7 at hF;generalize U[k]=id at*;have hs3:=MB.1.kept.size;have X5:=MB.1.kept.keep D5.1 I I I;have HN:=V λW(hW:AU wo W)=>kE.1 id W<|J MB.1.below hW;unfold nV at HN;obtain⟨fn,hfn⟩:=BM<|JW p.nodes id;rw[hfn]at HN hF;have HF:=V hF;have HBg:=V λn(e:fn=some n)=>ah.1 id n<|hfn.trans e;clear hfn hF;obtain⟨CJ,CO,CQ,Gi,-⟩:=X5.BF;cases fn with
  |none=>
   replace HN:=V<|show∀W,AU wo W->Calls prog 90 #[.agg #[.slice An nn cn,.slice Aa na ca,.slice Af nf cf],.int .i64 id] W λe w'=>e=.returned (.tuple #[.agg #[.int .i64 0,.int .i64 0,.int .i64 0],.bool false])/\AU W w' from HN.1;go_wp2_with fail;refine(HN.1 _<|bR wo).mono ?_;rintro e w4⟨rfl,hb4⟩;have HB4:=V hb4;clear hb4 X5 CJ CO CQ Gi HN;go_wp2;go_roundw;case rel=>have hf:o=[]:=HF.1.symm;exact⟨k+1,I,BH,by rw[HTs.1,hf,I9];exact MB.1.step (Dh _)<|bA HB4.1 _⟩
   case measure=>exact BJ|some n=>
   have hbg:=(HBg.1 n rfl).1;obtain⟨ni,⟨nx,ny⟩⟩:=n;simp only at hbg;replace HN:=V<|show∀W,AU wo W->Calls prog 90 #[.agg #[.slice An nn cn,.slice Aa na ca,.slice Af nf cf],.int .i64 id] W λe w'=>e=.returned (.tuple #[.agg #[.int .i64 ni,.int .i64 nx,.int .i64 ny],.bool true])/\AU W w' from HN.1;have hf:o=if ny=y then[⟨nx,nx+1⟩]else[]:=HF.1.symm;have HF2:=V hf;clear hf HF;go_wp2_with fail;refine(HN.1 _<|bR wo).mono ?_;rintro e w4⟨rfl,hb4⟩;have HB4:=V hb4;clear hb4 X5 CJ CO CQ Gi HN;go_upto_region 13 with fail;obtain⟨W5,hW⟩:∃W:World,W=w4.alloc (.cells #[.int .i64 ni,.int .i64 nx,.int .i64 ny] 56):=⟨_,rfl⟩;have X17:AO W5 w4.heap.size 56 #[.int .i64 ni,.int .i64 nx,.int .i64 ny]:=by rw[hW];exact AO.made rfl _ _
   have HRv:=V<|MB.1.step (Dh _) (show AU wo W5 by rw[hW];exact bA HB4.1 _);obtain⟨g17,h17⟩:∃g,w4.heap.size=g:=⟨_,rfl⟩;rw[<-hW];try rw[h17]
   rw[h17]at X17;clear hW h17 MB HB4;obtain⟨⟨vt,vc,hst⟩,hkp,hbw⟩:=HRv.1;obtain⟨T,Vw,Ez⟩:=CB hst hkp hbw;have XR:=hst.row;clear hst hkp hbw HRv;obtain⟨azh,azi,azj,azk,-⟩:=X17.BF;obtain⟨aBf,aBg,-⟩:=XR.G7;by_cases hy:ny=y
   .have hf:=HF2.1;rw[AZ hy]at hf;subst hf;subst hy;have hll:((FZ p b).flatMap (Ll ny)++(U.take k).flatMap (Q7 p.nodes ny)).length<=40000:=by have:=pq (Ll ny) (adR ny)<|FZ p b;have:=RD.1;rw[EK];omega
    obtain⟨L,hL⟩:=BM<|(FZ p b).flatMap (Ll ny)++(U.take k).flatMap (Q7 p.nodes ny);rw[hL]at T hll;have HL:=V hL;obtain⟨At,ct,hvt,-⟩:=T.1.tkn.own.sl;subst hvt;have hB5:w2.heap.size<=W5.heap.size:=Vw.1.size;have MW:=T.1.tkn.box;have xG:=V MW;have kw:=DR<|nx+1;have hsh:(L++[(⟨nx,nx+1⟩:Rn)]).length=L.length+1:=by simp
    have DN:=V hsh;clear hL hsh HF2;obtain⟨YW,YX,amH⟩:=MW.G7;go_wp2_with(at_builtin;refine FV _ rfl (.tmp 54) (.tmp 63) _ rfl (base:=w2.heap.size) Y9 XG Y8 rfl (Own.alloc T.1.tkn.own _) rfl (l2:=[(⟨nx,nx+1⟩:Rn)]) (Sl.lit (n:=1) (AO.made rfl _ _) rfl<|DC I) DY DY D8 ?_;intro v3 w3 ho3 z Kr;obtain⟨A3,c3,hv3,-⟩:=ho3.sl;rw[DN.1]at hv3;subst hv3;have HG:=V<|T.1.adY Vw.1.size z ho3;have RN:=AO.grown (xG.1.alloc _) z λe=>Own.ET T.1.tkn.own xG.1 BI e.symm;clear ho3 z Kr MW YW YX amH;obtain⟨jq,jr,jv⟩:=RN.G7);go_roundw;case rel=>exact⟨k+1,I,BH,⟨⟨_,_,by rw[HTs.1,<-Jv,HL.1];exact HG.1.1⟩,Vw.1.trans HG.1.2,HG.1.2.below w Ez.1 hw2 I I⟩⟩
    exact BJ
   .have hf:=HF2.1;rw[AX hy]at hf;have HFn:=V hf;clear hf HF2;go_wp2;go_roundw;case rel=>exact⟨k+1,I,BH,by rw[HTs.1,HFn.1,I9];exact⟨⟨_,_,T.1⟩,Vw.1,Ez.1⟩⟩
    exact BJ
 obtain rfl:k=U.length:=I;have fC:=MB.1;rw[Gu,<-qg.1]at fC;obtain⟨⟨vt,vc,hst⟩,hkp,hbw⟩:=fC;have hlt1:((FZ p b).flatMap (Ll y)++VG p b y).length<=40000:=by have h1:=pq (Ll y) (adR y)<|FZ p b;have h2:=pq (Q7 p.nodes y) (amB p.nodes y) U;have h3:=RD.1;rw[qg.1,EK];omega
 have amI:((FZ p b).flatMap<|IG y).length<=33280:=Du (pq (IG y) (amA y)<|FZ p b) RD.1;have hr0:=HR.1;obtain⟨L,hL⟩:=BM<|(FZ p b).flatMap (Ll y)++VG p b y;obtain⟨M,hM⟩:=BM<|(FZ p b).flatMap<|IG y;rw[hL]at hst hlt1 hr0;rw[hM]at hst amI hr0;obtain⟨HR2,T,Vw,Ez⟩:=D9 hr0 hst hkp hbw;obtain⟨wB,rfl⟩:=BR wo;clear hL hM hr0 hst hkp hbw HR MB kE ah RD Nv qg aCD D5;obtain⟨Am,cm,aCt,hm1,hm2,-⟩:=T.1.Lu.own.sl;subst aCt;have X9:=T.1.Lu.box;obtain⟨Hg,Hu,-⟩:=X9.G7;have xI:=T.1.Lu.own;go_wp2_with fail;refine(Qx.1 w2.heap.size _ M _ xI I).mono ?_;rintro e w3⟨rfl,hq,z⟩;have amJ:=Own.ET xI T.1.Lu.box BI;have hB3:AU w w3:=bG Ez.1 z λk hk=>Du hw2 (xI.lt k hk).1;obtain⟨HQo,MJ,jM,HTo,HB3⟩:=G9 hq (AO.grown T.1.Lu.box z<|λe=>amJ e.symm) (AO.grown T.1.tkn.box z<|λe=>Own.ET xI T.1.tkn.box BI e.symm) (Own.grown T.1.tkn.own z<|λg hg=>Own.apart T.1.tkn.own xI BI g hg) hB3;have hq2:=atV M;have TP:=ahv M;obtain⟨Q,hQ⟩:=BM<|Qz M;rw[hQ]at HQo hq2 TP;rw[<-hq2]at HR2;rw[<-TP]at amI MJ HQo⊢;obtain⟨wC,rfl⟩:=BR w3;clear hQ hq2 TP hq z xI amJ hB3 T Vw Ez X9 Hg Hu Qx;go_upto_block 4 with fail;go_wp2_with fail;go_loopw[19,10](λi s wr=>∃(j:Nat)(O:List Rn),j<=Q.length/\i=.int .i64 ((j:Int)+1)/\(∃A c,s=.slice A O.length c)/\Own wr wC.heap.size 134 2 GZ s O/\(∃m,j=2*m/\O=Ju (Q.take j))/\AU wC wr)λi _ _=>Q.length-(intOf i).toNat;case atStart=>exact⟨0,[],C9 _,rfl,⟨_,_,rfl⟩,Own.nil _ _ _ _ _,⟨0,rfl,rfl⟩,bR wC⟩
 obtain⟨j,O,hj,rfl,⟨Ao,co,rfl⟩,vG,hjm,F6⟩:=hrel;obtain⟨wo,rfl⟩:=BR wr;obtain⟨VX,HJm,FH⟩:=CB vG hjm F6;have X9:=MJ.1.keep F6;have aFN:=F6.size;have hOl:O.length<=40000:=by obtain⟨m,-,rfl⟩:=hjm;have:=amG _ (Q.take j)<|Dh _;have:=aDx j Q;omega
 clear vG hjm F6;by_cases hlt:j+1<Q.length
 .obtain⟨Aq,cq,he,-,-,hRq⟩:=HQo.1.sl;injection he with q1 q2 q3;subst q1 q3;clear q2;obtain⟨b',o',rfl,hlb,c0⟩:=Row.int hRq (k:=j) I;obtain⟨b'',o'',he,-,c1⟩:=Row.int hRq hlt;injection he with he;injection he with q1 q2 _;subst q1 q2;replace c0:=Dk FH.1 c0;replace c1:=Dk FH.1 c1;have MF:=MJ.1.lt;have hlo:b'<wo.heap.size:=IQ hlb aFN;have hgt:∀m,j=2*m->Ju (Q.take<|j+2)=Ju (Q.take j)++Jq (Q[j]'(by omega)) Q[j+1]:=λm hm=>by subst hm;exact amE m Q hlt
  have HGt:=V hgt;clear hgt hRq;generalize Q[j+1]=x2 at*;generalize Q[j]=x1 at*;have k2:IntKind.i64.wrap ((j:Int)+1-1)=j:=by rw[show(j:Int)+1-1=j by omega];exact Gz _ I
  have k3:(j:Int)<Q.length:=I;have k8:IntKind.i64.wrap (j:Int)=j:=Gz _ I;have k4:0<=(j:Int):=I;have k5:(j:Int)+1-1=j:=I;have k6:(j:Int)+1<Q.length:=I;have k7:0<=(j:Int)+1:=I;try clear Hg Hu
  obtain⟨Hg,Hu,-⟩:=X9.G7;go_upto_region 20 with fail;refine CZ wo (.run 10 0 0<|.done) λCG QR Ae Aj hS=>?_;iterate 10 refine Ah ?_
  refine CX ?_;clear hS Aj Ae;intro hB;skip;obtain⟨wd,hwd⟩:=BR wo.drew;obtain⟨amK,Q9,KZ⟩:=CB (X9.keep hB) (VX.1.keep hB)<|J FH.1 hB;have d0:=Dk hB c0;have d1:=Dk hB c1;have hld:b'<wd.heap.size:=by rw[hwd];exact IQ (IQ hlb aFN) hB.size
  have anq:wC.heap.size<=wd.heap.size:=by rw[hwd];exact Du aFN hB.size
  rw[<-hwd]at amK Q9 KZ d0 d1⊢;clear hwd hB X9 Hg Hu c0 c1 VX FH aFN hlo;have X9:=amK.1;by_cases hx:x1<x2
  .have hsh:(O++[(⟨x1,x2⟩:Rn)]).length=O.length+1:=by simp
   have DN:=V hsh;clear hsh;try clear Hg Hu
   obtain⟨Hg,Hu,-⟩:=X9.G7;go_upto_region 21 with fail;refine Pe wC.heap.size wd (.run 11 0 0<|.call 11 4095<|.call 12 8191<|.take 13 16383<|.done) λCG QR Ae Aj hS=>?_;iterate 11 refine Ah ?_
   refine BP ?_;clear hS;intro K hK AQ;go_simp;refine hK.out _ _ (Gs I AQ.out _) λhS=>?_;clear hK K AQ;try simp only[pu]
   refine BP ?_;clear hS;intro K hK AQ;refine Ir (.tmp 84) (.tmp 95) _ rfl (base:=wC.heap.size) (l:=O) (l2:=[⟨x1,x2⟩]) Y9 XG Y8 rfl (Own.alloc (Q9.1.keep<|bD<|bR wd) _) rfl (Sl.lit (n:=1) (AO.made rfl _ _) rfl<|DC I) DY DY D8 ?_;intro v9 wn QW hgn cu;obtain⟨A9,c9,Uk,-⟩:=Own.Il QW;rw[DN.1]at Uk;subst Uk;have dB:=V QW;have hS:Fh wC.heap.size wd wn:=Below.grown (Below.alloc (Below.drew<|Below.refl _ _) D8 _) hgn D8 λg hg=>(Q9.1.lt g hg).1;clear QW hgn cu;clear AQ;refine hK.out _ _ hS λ_=>?_;clear hK K;try simp only[pu]
   refine Ah ?_;refine L9 ?_;clear hS Aj Ae;intro hB;go_wp2;go_roundw;case rel=>exact⟨j+2,O++[⟨x1,x2⟩],I,BH,⟨A9,c9,by rw[DN.1]⟩,dB.1,by obtain⟨m,h1,h2⟩:=HJm.1;exact⟨m+1,I,by rw[HGt.1 m h1,<-h2];unfold Jq;rw[AZ hx]⟩,Below.trans KZ.1 hB⟩
   exact BJ
  go_wp2;go_roundw;case rel=>exact⟨j+2,O,I,BH,⟨_,_,rfl⟩,Q9.1,by obtain⟨m,h1,h2⟩:=HJm.1;exact⟨m+1,I,by rw[HGt.1 m h1,<-h2];unfold Jq;rw[AX hx,I9]⟩,KZ.1⟩
  exact BJ
 obtain⟨m,h1,h2⟩:=HJm.1;have hOe:O=Ju Q:=by rw[h2,h1];exact amF m Q I I
 have hr:=HR2.1;rw[<-hOe]at hr;have jl:=V hr;have Lm:=V<|J HB3.1 FH.1;obtain⟨At,ct,hvt,-⟩:=HTo.1.sl;subst hvt;have MW:=jM.1.keep FH.1;have HTf:=V<|HTo.1.keep FH.1;clear hr hOe h2 HJm MJ HQo jM HTo HB3 HR2;try clear Hg Hu
 obtain⟨Hg,Hu,-⟩:=X9.G7;try clear YW YX
 try clear amH
 obtain⟨YW,YX,-⟩:=MW.G7;by_cases h0:O.length=0;.have hO:O=[]:=List.length_eq_zero_iff.1 h0;have hz:((O.length:Nat):Int)=0:=I;have hr:=jl.1;rw[hO,awg]at hr;have HR0:=V hr;clear hr hO;go_wp2;go_ret;exact⟨none,0,by rw[HR0.1];rfl,by rw[HR0.1];exact Own.nil _ _ _ _ _,Lm.1⟩
 have hz:¬((O.length:Nat):Int)=0:=I;go_wp2_with fail;refine(OU.1 _ _ O L wo VX.1.sl HTf.1.sl I I).mono ?_;rintro e w5⟨A,c,rfl,Dq,hb5⟩;rw[<-jl.1]at Dq⊢;have Gf:=V Dq;have Cb:=V<|J Lm.1 hb5;have hsz5:=Lm.1.size;clear Dq hb5;go_wp2;go_ret;exact⟨A,c,rfl,Gf.1.EN hsz5,Cb.1⟩
def XM(o:Option Pt):Value:=match o with|none=>.tuple #[.agg #[.int .i64 0,.int .i64 0],.bool false]|some v=>.tuple #[.agg #[.int .i64 v.x,.int .i64 v.y],.bool true]
def adS(p:Pl)(b:Option<|List Int)(y:Int):Option Pt:=(Um<|Lr p b y).2.map λx=>⟨x,y⟩
theorem Valid.ayI{p:Pl}(h:Valid p){X:List Int}(j:X∈BN p){y:Int}{r:Rn}(c:r∈Lr p (some X) y):(-2097152<=r.lo/\r.lo<=2097152)/\-2097152<=r.hi/\r.hi<=2097153:=by have hv:MQ<|Lr p (some X) y:=(yu _ _ (Wp _).1 (Wp _).1).1;have h0:=hv.1 r c;have o:=h.ajp j (y:=y) (x:=r.lo) ⟨r,c,J8 _,h0⟩;have s:=h.ajp j (y:=y) (x:=r.hi-1) ⟨r,c,I,I⟩;rw[QO]at o s;simp only at o s;omega
theorem ayJ(v:Value)(p:Pl)(w:World)(h:Cj w v p)(hv:Valid p)(gm:Nat)(f:Int->SV)(hpm:Qk w gm p f)(x:AD)(X:List Int)(hX:X∈BN p)(ho:Ints w (BO x.ov) x.out)(hi:Sl w (BO x.iv) x.inn.length<|x.inn.flatMap JL)(hc:∀c∈x.inn,Ints w (BO c.2) c.1)(ha:Ints w (BO x.av) x.Ci)(hcy:(Nz x).map (·.1)=GN p (some X))(hal:x.Ci=Sr p (some X))(y:Int):Calls prog 98 #[.map<|some gm,v,.agg #[.int .i64 x.tw,BO x.ov,BO x.iv,BO x.av],.int .i64 y] w λe w'=>e=.returned (XM<|adS p (some X) y)/\AU w w':=by
 have hb:some X∈Ku p:=FW _<|H6 hX;have MB:=V λW(hW:AU w W)=>ayH v p W (h.mono hW) hv gm f (hpm.keep hW) x (some X) hb (ho.mono hW) (hi.mono hW) (λc hc'=>(hc c hc').mono hW) (ha.mono hW) hcy hal y;have KZ:=V λr hr=>hv.ayI hX (y:=y) (r:=r) hr;obtain⟨R,hR⟩:=BM<|Lr p (some X) y;unfold adS;rw[hR]at MB KZ⊢;clear hR hb hpm hX ho hi hc ha hcy hal hv;obtain⟨_,_,_,al,rfl,-,⟨An,cn,rfl,-⟩,⟨⟨Aa,ca,rfl,-⟩,-⟩,⟨Af,cf,rfl,-⟩⟩:=h;obtain⟨tw,out,⟨oa,on,oc⟩,inn,⟨ia,IX,ic⟩,Ci,⟨aa,an,ac⟩⟩:=x;unfold BO at MB⊢;simp only at MB⊢;generalize p.nodes.length=nn at*;generalize al.length=na at*;generalize p.faces.length=nf at*;obtain⟨q,hq⟩:=BM<|(Um R).2.map λx=>(⟨x,y⟩:Pt);rw[hq];have HQ:=V hq;clear hq;go_enter func98,ntmps98;go_upto_region 2 with fail;obtain⟨W1,hW⟩:∃W:World,W=((w.alloc<|.cells #[.slice An nn cn,.slice Aa na ca,.slice Af nf cf] 26).alloc<|.cells #[.int .i64 tw,.slice oa on oc,.slice ia IX ic,.slice aa an ac] 99).alloc (.cells #[.int .i64 0,.int .i64 0] 50):=⟨_,rfl⟩;have X5:AO W1 w.heap.size 26 #[.slice An nn cn,.slice Aa na ca,.slice Af nf cf]:=by rw[hW];exact((AO.made rfl _ _).alloc _).alloc _
 have X6:AO W1 (w.heap.size+1) 99 #[.int .i64 tw,.slice oa on oc,.slice ia IX ic,.slice aa an ac]:=by rw[hW];exact(AO.made Ak _ _).alloc _
 have C:AO W1 (w.heap.size+1+1) 50 #[.int .i64 0,.int .i64 0]:=by rw[hW];exact AO.made Ak _ _
 have HA:=V (show AU w W1 by rw[hW];exact bA (bA (bA (bR w) _) _) _);rw[<-hW];clear hW;obtain⟨K,h8⟩:∃g,w.heap.size+1+1=g:=⟨_,rfl⟩;have P9:w.heap.size<=K:=I;rw[h8]at C⊢;have WU:=V C;clear h8 C;obtain⟨CJ,CO,CQ,Gi,-⟩:=X5.BF;obtain⟨EW,EX,EY,Ov,Ub,-⟩:=X6.MC;go_wp2_with fail;refine(MB.1 _ HA.1).mono ?_;rintro e w2⟨A,c,rfl,M,hb2⟩;obtain⟨HO,HB2,HX⟩:=CB (M.EN HA.1.size) (J HA.1 hb2)<|WU.1.keep hb2;have hRl:R.length<=9223372036854775807:=by obtain⟨_,_,_,h1,h2,-⟩:=M.sl;unfold maxLen at h2;omega
 clear M hb2 WU MB HA X5 CJ CO CQ Gi X6 EW EX EY Ov Ub;go_upto_block 0 with fail;go_wp2_with fail;go_loopw[20,10,9](λi m ok wr=>∃(k:Nat)(s:Int×Option Int),k<=R.length/\i=.int .i64 k/\Um (R.take k)=s/\m=.int .i64 s.1/\ok=.bool s.2.isSome/\Own wr w.heap.size 134 2 GZ (.slice A R.length c) R/\AO wr K 50 #[.int .i64<|s.2.getD 0,.int .i64<|if s.2.isSome=true then y else 0]/\AU w wr)λi _ _ _=>R.length-(intOf i).toNat;case atStart=>exact⟨0,(0,none),C9 _,rfl,rfl,rfl,rfl,HO.1,HX.1,HB2.1⟩
 obtain⟨k,s,hk,rfl,hs,rfl,rfl,hO,C,hbw⟩:=hrel;obtain⟨wo,rfl⟩:=BR wr;obtain⟨EZ,CW,Ez⟩:=CB hO C hbw;by_cases hlt:k<R.length
 .obtain⟨A',c',he,-,-,J6⟩:=hO.sl;injection he with q1 q2 q3;subst q1 q3;clear q2;obtain⟨b',o',rfl,hlb,c0,c1⟩:=J6.rn hlt;have j:=awh hlt;rw[hs]at j;have hbd:=KZ.1 _<|BG hlt;generalize R[k]=r at*;obtain⟨lo,hi⟩:=r;obtain⟨m0,o⟩:=s;simp only at c0 c1 hbd;unfold aBG at j;simp only at j;have Ce:=V j;have k1:=DR<|hi-lo;have k2:=DR<|lo+hi;have k3:=DR<|lo+hi-1;clear hs j hO J6 HO HX HB2 hbw;by_cases hgt:m0<hi-lo
  .have j:=Ce.1;rw[AZ hgt]at j;have pF:=V j;have Oz:=C;clear j Ce;obtain⟨Ox,Oy,Oz,T,U⟩:=C.BL;go_wp2_with fail;have hne:=Own.ET EZ.1 CW.1 BI;go_roundw;case measure=>exact BJ
   exact⟨k+1,_,I,BH,pF.1,rfl,rfl,((EZ.1.far (p:=⟨K,0,none⟩) hne _).far (p:=⟨K,1,none⟩) hne _).alloc _,(AO.O9 CW.1).alloc _,bA (bS (p:=⟨K,1,none⟩) (bS (p:=⟨K,0,none⟩) Ez.1 P9 _) P9 _) _⟩
  have j:=Ce.1;rw[AX hgt]at j;have pF:=V j;clear j Ce;go_wp2;go_roundw;case measure=>exact BJ
  exact⟨k+1,_,I,BH,pF.1,rfl,rfl,EZ.1.alloc _,CW.1.alloc _,bA Ez.1 _⟩
 obtain rfl:k=R.length:=I;rw[Gu]at hs;have hq:=HQ.1;rw[hs]at hq;have Oa:=V hq;clear hs hq HQ hO;obtain⟨m0,o⟩:=s;simp only at C Oa CW;have hl8:=C.lt;cases o with|none=>
  have HR:=V<|show q=none from Oa.1.symm;simp only[yF,lI,O7,if_false]at C CW;try clear Ox Oy Oz
  try clear T U
  obtain⟨Ox,Oy,Oz,T,U⟩:=C.BL;go_wp2_with fail;refine L6 (t:=50) (g:=K) (cs:=#[.int .i64 0,.int .i64 0]) rfl UR rfl rfl (AO.O9 CW.1) ⟨by rw[HR.1];rfl,bS (p:=⟨K,1,none⟩) (bS (p:=⟨K,0,none⟩) Ez.1 P9 _) P9 _⟩|some z=>
  have HR:=V<|show q=some ⟨z,y⟩from Oa.1.symm;simp only[I7,Xh,if_true]at C CW;try clear Ox Oy Oz
  try clear T U
  obtain⟨Ox,Oy,Oz,T,U⟩:=C.BL;go_wp2_with fail;refine L6 (t:=50) (g:=K) (cs:=#[.int .i64 z,.int .i64 y]) rfl UR rfl rfl (AO.O9 CW.1) ⟨by rw[HR.1];rfl,bS (p:=⟨K,1,none⟩) (bS (p:=⟨K,0,none⟩) Ez.1 P9 _) P9 _⟩
def fD(x:Bx):Array Value:=#[.int .i64 x.x0,.int .i64 x.y0,.int .i64 x.x1,.int .i64 x.y1]
theorem ayK(v:Value)(l:List Pt)(w:World)(h:EL w v l)(hne:0<l.length):Calls prog 97 #[v] w λe w'=>e=.returned (.agg<|fD<|NI l)/\AU w w':=by
 obtain⟨A,c,rfl,hn1,hn2,hR⟩:=h;unfold maxLen at hn2;have HR:=V hR;obtain⟨b,o,rfl,hlb,c0,c1⟩:=hR.pt hne;simp only[yK,VA]at c0 c1;obtain⟨R,hRr⟩:=BM<|NI l;rw[hRr];have hR2:l.foldl Ph ⟨l[0].x,l[0].y,l[0].x,l[0].y⟩=R:=by rw[<-hRr];cases l with|nil=>cases hne|cons a l=>rfl
 obtain⟨M,hp0⟩:=BM l[0];rw[hp0]at c0 c1 hR2;have Oe:=V hR2;have hk0:(0:Int)<l.length:=I;have hkn:¬l=[]:=λe=>by rw[e]at hne;cases hne
 have hkz:((l.length:Int)==0)=false:=by rw[beq_eq_false_iff_ne];omega
 have azl:(l.length==0)=false:=by rw[beq_eq_false_iff_ne];omega
 clear hR hRr hR2 hp0;go_enter func97,ntmps97;go_upto_region 1 with fail;obtain⟨T,hW⟩:∃W:World,W=w.alloc (.cells #[.int .i64 0,.int .i64 0,.int .i64 0,.int .i64 0] 95):=⟨_,rfl⟩;obtain⟨g2,hg2⟩:=BM w.heap.size;have X2:AO T g2 95 #[.int .i64 0,.int .i64 0,.int .i64 0,.int .i64 0]:=by rw[hW];exact AO.made hg2.symm _ _
 have hA:AU w T:=by rw[hW];exact bA (bR w) _
 have HB1:=V hA;rw[<-hW];replace c0:=Dk hA c0;replace c1:=Dk hA c1;have aAq:b<T.heap.size:=by have:=hA.size;omega
 have hbg:some b≠some g2:=λe=>by have:=Dn e;omega
 have CW:=V X2;have hgw:w.heap.size<=g2:=I;clear hW hA;try rw[hg2]
 obtain⟨BX,Bf,Bh,CS,aAA,UL,WS,aF,adT⟩:=X2.MC;go_upto_region 3 with fail;refine Wn T (some g2) (.run 17 0 0<|.call 17 262143<|.done) λCG QR Ae Aj hS=>?_;iterate 17 refine Ah ?_
 refine BP ?_;clear hS;intro K hK AQ;go_simp;refine hK.out _ _ QG λhS=>?_;clear hK K AQ;try simp only[pu]
 refine U7 ?_;clear hS Aj Ae;intro hB;skip;have KZ:=V<|show Below g2 T T.drew from Below.drew<|Below.refl g2 T;clear hB c0 c1 BX Bf Bh CS aAA UL WS aF adT;go_wp2_with fail;go_loopw[28](λu wr=>∃(k:Nat)(x:Bx),k<=l.length/\u=.int .i64 k/\x=(l.take k).foldl Ph ⟨M.x,M.y,M.x,M.y⟩/\AO wr g2 95 #[.int .i64 x.x0,.int .i64 x.y0,.int .i64 x.x1,.int .i64 x.y1]/\Below g2 T wr)λu _=>l.length-(intOf u).toNat;case atStart=>exact⟨0,⟨M.x,M.y,M.x,M.y⟩,C9 _,rfl,rfl,AO.nD CW.1.drew,(((KZ.1.setCell (p:=⟨g2,0,none⟩) (Dh _) _).setCell (p:=⟨g2,1,none⟩) (Dh _) _).setCell (p:=⟨g2,2,none⟩) (Dh _) _).setCell (p:=⟨g2,3,none⟩) (Dh _) _⟩
 obtain⟨k,x,hk,rfl,hx,X3,hb⟩:=hrel;obtain⟨wo,rfl⟩:=BR wr;obtain⟨Hb,HX,aBt⟩:=CB hb hx X3;have l3:=X3.lt;have Ez:=V<|show AU w wo from HB1.1.trans<|hb.mono hgw;clear hb hx;by_cases hlt:k<l.length
 .obtain⟨b',o',hA',Po,c0,c1⟩:=(HR.1.mono Ez.1).pt hlt;injection hA' with hA';injection hA' with y1 y2 _;subst y1 y2;have hst:(l.take<|k+1).foldl Ph ⟨M.x,M.y,M.x,M.y⟩=Ph x l[k]:=by rw[Eu hlt,LG,<-HX.1];rfl
  unfold Ph at hst;have Ce:=V hst;generalize l[k]=p at*;clear hst;go_upto_region 7 with fail;obtain⟨W2,hW2⟩:∃W:World,W=wo.alloc (.cells #[.int .i64 p.x,.int .i64 p.y] 50):=⟨_,rfl⟩;have hA1:AU wo W2:=by rw[hW2];exact bA (bR wo) _
  obtain⟨g5,hg5⟩:=BM wo.heap.size;have X5:AO W2 g5 50 #[.int .i64 p.x,.int .i64 p.y]:=by rw[hW2];exact AO.made hg5.symm _ _
  have HB2:=V (show Below g2 T W2 by rw[hW2];exact Hb.1.alloc (by have:=Hb.1.size;have:=CW.1.lt;omega) _);have n5:¬g5=g2:=I;have D7:=V<|aBt.1.keep hA1;have D5:=V X5;rw[<-hW2];try rw[hg5]
  clear hW2 hA1 hg5 X3 c0 c1 aBt Hb Ez;have X4:=D7.1;obtain⟨Bg,Bq,CP,Fe,KW,DX,EU,JI,Pm⟩:=X4.MC;obtain⟨CJ,CO,CQ,-⟩:=X5.BL;go_cut[33]λu wx=>AO wx g2 95 #[.int .i64<|min x.x0 p.x,.int .i64 x.y0,.int .i64<|max x.x1 p.x,.int .i64 x.y1]/\AO wx g5 50 #[.int .i64 p.x,.int .i64 p.y]/\Below g2 T wx;case first=>
   obtain⟨U,s⟩:=BR<|if p.x<x.x0 then p.x else x.x0;obtain⟨m2,z⟩:=BR<|if x.x1<p.x then p.x else x.x1;have C:AO ((W2.setCell ⟨g2,0,none⟩<|.int .i64 U).setCell ⟨g2,2,none⟩<|.int .i64 m2).drew g2 95 #[.int .i64<|min x.x0 p.x,.int .i64 x.y0,.int .i64<|max x.x1 p.x,.int .i64 x.y1]/\AO ((W2.setCell ⟨g2,0,none⟩<|.int .i64 U).setCell ⟨g2,2,none⟩<|.int .i64 m2).drew g5 50 #[.int .i64 p.x,.int .i64 p.y]/\Below g2 T ((W2.setCell ⟨g2,0,none⟩<|.int .i64 U).setCell ⟨g2,2,none⟩<|.int .i64 m2).drew:=by
    refine⟨?_,((D5.1.far (p:=⟨g2,0,none⟩) n5 _).far (p:=⟨g2,2,none⟩) n5 _).drew,((HB2.1.setCell (p:=⟨g2,0,none⟩) (Dh _) _).setCell (p:=⟨g2,2,none⟩) (Dh _) _).drew⟩;have h:=AO.EM (AO.EM D7.1 0<|.int .i64 U) 2<|.int .i64 m2;have e1:min x.x0 p.x=U:=by rw[s];split<;>omega
    have e2:max x.x1 p.x=m2:=by rw[z];split<;>omega
    rw[e1,e2];refine AO.drew ?_;simpa using h
   obtain⟨YH,aBu,aBv,aBw,aBx⟩:=G9 C s z (show min x.x0 p.x=U by rw[s];split<;>omega) (show max x.x1 p.x=m2 by rw[z];split<;>omega);clear C s z;go_upto_region 7 with fail;refine Wn W2 (some g2) (.take 0 1<|.take 2 5<|.take 3 13<|.take 5 45<|.take 7 173<|.take 8 429<|.two 1 431 (.take 4 447<|.call 6 511<|.take 9 1023<|.take 10 2047<|.call 11 4095<|.take 12 8191<|.call 13 16383<|.done) 6 493<|.take 9 1005<|.call 1 1007<|.take 4 1023<|.take 10 2047<|.call 11 4095<|.take 12 8191<|.call 13 16383<|.done) λCG QR Ae Aj hS=>?_;iterate 6 refine Ah ?_
   refine QJ (i:=1) (j:=6) (FD Ae rfl) (FD Ae rfl) (λK hK=>?_) λK hK=>?_
   .have AQ:=V hS;clear hS;refine Fp (Fb rfl) ?_;go_simp;refine hK.out _ _ AQ.out λhS=>?_;clear hK K AQ;try simp only[pu]
    refine Ah ?_;refine BP ?_;clear hS;intro K hK AQ;go_simp;refine hK.out _ _ AQ.out λhS=>?_;clear hK K AQ;try simp only[pu]
    iterate 2 refine Ah ?_
    refine BP ?_;clear hS;intro K hK AQ;go_simp;refine hK.out _ _ QG λhS=>?_;clear hK K AQ;try simp only[pu]
    refine Ah ?_;refine BP ?_;clear hS;intro K hK AQ;go_simp;refine hK.out _ _ QG λhS=>?_;clear hK K AQ;try simp only[pu]
    refine U7 ?_;clear hS Aj Ae;intro hB;first|rw[<-aBu.1,<-aBv.1]|rw[aBw.1,aBx.1]
    go_wp2;go_meet;exact YH.1
   have AQ:=V hS;clear hS;refine Fp (Fb rfl) ?_;go_simp;refine hK.out _ _ AQ.out λhS=>?_;clear hK K AQ;try simp only[pu]
   refine Ah ?_;refine BP ?_;clear hS;intro K hK AQ;go_simp;refine hK.out _ _ AQ.out λhS=>?_;clear hK K AQ;try simp only[pu]
   iterate 2 refine Ah ?_
   refine BP ?_;clear hS;intro K hK AQ;go_simp;refine hK.out _ _ QG λhS=>?_;clear hK K AQ;try simp only[pu]
   refine Ah ?_;refine BP ?_;clear hS;intro K hK AQ;go_simp;refine hK.out _ _ QG λhS=>?_;clear hK K AQ;try simp only[pu]
   refine U7 ?_;clear hS Aj Ae;intro hB;first|rw[<-aBu.1,<-aBv.1]|rw[aBw.1,aBx.1]
   go_wp2;go_meet;exact YH.1
  obtain⟨hx4,hx5,hb4⟩:=hcut;obtain⟨wv,rfl⟩:=BR wc;obtain⟨Ic,Jg,HB4⟩:=CB hx4 hx5 hb4;clear hx4 hx5 hb4 X4 Bg Bq CP Fe KW DX EU JI Pm X5 CJ CO CQ D7 D5 HB2;have X6:=Ic.1;have X7:=Jg.1;obtain⟨EW,EX,EY,Ov,Ub,Zl,Zm,axe,azm⟩:=X6.MC;obtain⟨Ec,Ee,Fg,-⟩:=X7.BL;obtain⟨U,s⟩:=BR<|if p.y<x.y0 then p.y else x.y0;obtain⟨m2,z⟩:=BR<|if x.y1<p.y then p.y else x.y1;have C:AO ((wv.setCell ⟨g2,1,none⟩<|.int .i64 U).setCell ⟨g2,3,none⟩<|.int .i64 m2).drew g2 95 #[.int .i64<|min x.x0 p.x,.int .i64<|min x.y0 p.y,.int .i64<|max x.x1 p.x,.int .i64<|max x.y1 p.y]/\Below g2 T ((wv.setCell ⟨g2,1,none⟩<|.int .i64 U).setCell ⟨g2,3,none⟩<|.int .i64 m2).drew:=by
   refine⟨?_,((HB4.1.setCell (p:=⟨g2,1,none⟩) (Dh _) _).setCell (p:=⟨g2,3,none⟩) (Dh _) _).drew⟩;have h:=AO.EM (AO.EM Ic.1 1<|.int .i64 U) 3<|.int .i64 m2;have e1:min x.y0 p.y=U:=by rw[s];split<;>omega
   have e2:max x.y1 p.y=m2:=by rw[z];split<;>omega
   rw[e1,e2];refine AO.drew ?_;simpa using h
  obtain⟨YH,aBu,aBv,aBw,aBx⟩:=G9 C s z (show min x.y0 p.y=U by rw[s];split<;>omega) (show max x.y1 p.y=m2 by rw[z];split<;>omega);clear C s z;go_upto_region 8 with fail;refine Wn wv (some g2) (.take 0 1<|.take 2 5<|.take 3 13<|.take 5 45<|.take 7 173<|.take 8 429<|.two 1 431 (.take 4 447<|.call 6 511<|.take 9 1023<|.take 10 2047<|.call 11 4095<|.take 12 8191<|.call 13 16383<|.done) 6 493<|.take 9 1005<|.call 1 1007<|.take 4 1023<|.take 10 2047<|.call 11 4095<|.take 12 8191<|.call 13 16383<|.done) λCG QR Ae Aj hS=>?_;iterate 6 refine Ah ?_
  refine QJ (i:=1) (j:=6) (FD Ae rfl) (FD Ae rfl) (λK hK=>?_) λK hK=>?_
  .have AQ:=V hS;clear hS;refine Fp (Fb rfl) ?_;go_simp;refine hK.out _ _ AQ.out λhS=>?_;clear hK K AQ;try simp only[pu]
   refine Ah ?_;refine BP ?_;clear hS;intro K hK AQ;go_simp;refine hK.out _ _ AQ.out λhS=>?_;clear hK K AQ;try simp only[pu]
   iterate 2 refine Ah ?_
   refine BP ?_;clear hS;intro K hK AQ;go_simp;refine hK.out _ _ QG λhS=>?_;clear hK K AQ;try simp only[pu]
   refine Ah ?_;refine BP ?_;clear hS;intro K hK AQ;go_simp;refine hK.out _ _ QG λhS=>?_;clear hK K AQ;try simp only[pu]
   refine U7 ?_;clear hS Aj Ae;intro hB;first|rw[<-aBu.1,<-aBv.1]|rw[aBw.1,aBx.1]
   go_wp2;go_roundw;case rel=>exact⟨k+1,_,I,BH,Ce.1.symm,YH.1.1,YH.1.2⟩
   exact BJ
  have AQ:=V hS;clear hS;refine Fp (Fb rfl) ?_;go_simp;refine hK.out _ _ AQ.out λhS=>?_;clear hK K AQ;try simp only[pu]
  refine Ah ?_;refine BP ?_;clear hS;intro K hK AQ;go_simp;refine hK.out _ _ AQ.out λhS=>?_;clear hK K AQ;try simp only[pu]
  iterate 2 refine Ah ?_
  refine BP ?_;clear hS;intro K hK AQ;go_simp;refine hK.out _ _ QG λhS=>?_;clear hK K AQ;try simp only[pu]
  refine Ah ?_;refine BP ?_;clear hS;intro K hK AQ;go_simp;refine hK.out _ _ QG λhS=>?_;clear hK K AQ;try simp only[pu]
  refine U7 ?_;clear hS Aj Ae;intro hB;first|rw[<-aBu.1,<-aBv.1]|rw[aBw.1,aBx.1]
  go_wp2;go_roundw;case rel=>exact⟨k+1,_,I,BH,Ce.1.symm,YH.1.1,YH.1.2⟩
  exact BJ
 have hxr:x=R:=by rw[HX.1,Ip I,Oe.1]
 have HXr:=V hxr;clear hxr;obtain⟨E5,Em,Ew,MV,MH,iE,aAM,amL,amM⟩:=X3.MC;go_wp2_with fail;refine nG (g:=g2) (cs:=#[.int .i64 x.x0,.int .i64 x.y0,.int .i64 x.x1,.int .i64 x.y1]) rfl anT rfl rfl (AO.nD aBt.1) ⟨by rw[HXr.1];rfl,?_⟩;exact(((Ez.1.setCell (p:=⟨g2,0,none⟩) hgw _).setCell (p:=⟨g2,1,none⟩) hgw _).setCell (p:=⟨g2,2,none⟩) hgw _).setCell (p:=⟨g2,3,none⟩) hgw _
structure fE(w:World)(B g:Nat)(l:List Pt)(v:Value):Prop where box:AO w g 29 #[v]own:Own w B 50 2 Ep v l
theorem fE.keep{w w':World}{B g:Nat}{l:List Pt}{v:Value}(h:fE w B g l v)(hb:AU w w'):fE w' B g l v:=⟨h.box.keep hb,h.own.keep hb⟩
theorem ayL(a b:Pt)(B g:Nat)(l:List Pt)(v:Value)(w:World)(h:fE w B g l v)(C:B<=w.heap.size)(hl:l.length<=1000000):Calls prog 96 #[BD a,BD b,.pointer<|some ⟨g,0,none⟩] w λe w'=>e=.returned (.tuple #[])/\(∃v',fE w' B g (l++[a,b]) v')/\Jm B g g w w':=by
 obtain⟨s,own⟩:=h;obtain⟨A,c,rfl,-⟩:=Own.sl own;have n4:=Own.ET own s BI;have hg:=s.lt;unfold BD;go_enter func96,ntmps96;go_upto_region 1 with fail;obtain⟨z,K⟩:∃W:World,W=(w.alloc<|.cells #[.int .i64 a.x,.int .i64 a.y] 50).alloc (.cells #[.int .i64 b.x,.int .i64 b.y] 50):=⟨_,rfl⟩;have X5:AO z w.heap.size 50 #[.int .i64 a.x,.int .i64 a.y]:=by rw[K];exact(AO.made rfl _ _).alloc _
 have X6:AO z (w.heap.size+1) 50 #[.int .i64 b.x,.int .i64 b.y]:=by rw[K];exact AO.made Ak _ _
 have M:AU w z:=by rw[K];exact bA (bA (bR w) _) _
 replace s:=s.keep M;obtain⟨D7,HO,HA⟩:=CB s (own.keep M) M;have hB1:B<=z.heap.size:=Du C M.size;have T:(l++[a,b]).length=l.length+2:=by simp
 have DN:=V T;have HN:=V n4;rw[<-K];clear K M own T n4;obtain⟨Bg,Bq,DX⟩:=s.G7;obtain⟨CJ,CO,CQ,-⟩:=X5.BL;obtain⟨EW,EX,EY,-⟩:=X6.BL;go_wp2_with(at_builtin;refine FV _ rfl (.tmp 5) (.tmp 8) _ rfl (base:=B) LZ LK La rfl (Own.alloc HO.1 _) rfl (l2:=[a,b]) (Sl.lit (n:=2) (AO.made rfl _ _) rfl<|DC I) DY DY D8 ?_;intro v3 w3 o j Kr;obtain⟨A3,c3,U,-⟩:=o.sl;rw[DN.1]at U;subst U;have RN:=AO.grown (D7.1.alloc _) j λe=>HN.1 e.symm;have HF:=V<|show fE (w3.setCell ⟨g,0,none⟩<|.slice A3 (l.length+2) c3) B g (l++[a,b])<|.slice A3 (l.length+2) c3 from⟨RN.EM 0 _,o.far (p:=⟨g,0,none⟩) (Own.ET o RN BI) _⟩;have HK:=V<|show Jm B g g z<|w3.setCell ⟨g,0,none⟩<|.slice A3 (l.length+2) c3 from⟨λw0 k1 k2 k3 _=>bS (p:=⟨g,0,none⟩) (bG (bA k1 _) j<|λk hk=>Du k2 (HO.1.lt k hk).1) k3 _,by have:=j.size;simp at this;simp;omega,λg1 k1 k2 _=>by rw[Below.heap_setCell w3 ⟨g,0,none⟩ _ g1 k2,j.block g1 D8<|λe=>by have:=(HO.1.lt g1 e.symm).1;omega];exact Below.heap_alloc z _ g1 I⟩;clear o j Kr s Bg Bq DX;obtain⟨jq,jr,jv⟩:=RN.G7);exact bodyPost_end (v:=.tuple #[]) (results_none rfl _ _ _) rfl ⟨rfl,⟨_,HF.1⟩,(Jm.of C HA.1).trans HK.1⟩
structure amN(w:World)(B g:Nat)(S:List<|Pt×Pt)(w2 W:World):Prop where
 st:∃v,fE W B g (Kv S) v
 kept:Jm B g g w2 W
 below:AU w W
theorem ayM(S:List<|Pt×Pt)(q:Pt×Pt):Kv (S++[q])=Kv S++[q.1,q.2]:=by unfold Kv;rw[LY];rfl
theorem ayN(S:List<|Pt×Pt):(Kv S).length=2*S.length:=by unfold Kv;induction S with|nil=>rfl|cons q S c=>rw[LC,EK,c];simp;omega
theorem ayO(w:World)(C:Nat)(p:Pl)(f:Int->SV)(K:Qk w C p f)(hv:Valid p)(M:Value)(X:List Int)(hX:Ints w M X)(hd:∀d∈X,d∈BZ p)(B g:Nat)(hl:(DV p X).length<=40000)(U:w.heap.size<=B)(z:w.heap.size<=g)(W:World)(hB:B<=W.heap.size)(v0:Value)(h0:fE W B g [] v0)(hw:AU w W):Calls prog 95 #[.map<|some C,M,.func (.func 96) #[] #[.pointer<|some ⟨g,0,none⟩]] W λe c=>e=.returned (.tuple #[])/\amN w B g (DV p X) W c:=by
 refine(aw1 w C p f K hv M X hX hd g (λs c=>amN w B g s W c) (λs q=>s++[q]) (λs W h=>h.below) (λs c h=>⟨by obtain⟨⟨v,h1⟩,-⟩:=h;exact⟨v,h1.keep<|bD<|bR c⟩,h.kept.trans ⟨λw0 k _ _ _=>bD k,Dh _,λ_ _ _ _=>rfl⟩,bD h.below⟩) [] (λS0 c q r hs h=>?_) W ⟨⟨v0,h0⟩,Jm.refl _ _ _ _,hw⟩).mono ?_
 .rw[foldl_snoc,Rj]at h⊢;obtain⟨⟨v,T⟩,hk,hb⟩:=h;have hlen:S0.length<=40000:=by have:=congrArg List.length hs;simp only[EK,Gy]at this;omega
  refine(ayL q.1 q.2 B g _ v c T (Du hB hk.size)<|by rw[ayN];omega).mono ?_;rintro e W2⟨rfl,⟨v',o⟩,j⟩;exact⟨rfl,⟨⟨v',by rw[ayM];exact o⟩,hk.trans j,j.below w hb U z z⟩,j.base hb U z z⟩
 rintro e c⟨rfl,h,-⟩;rw[foldl_snoc,Rj]at h;exact⟨rfl,h⟩
theorem alZ{w:World}{g:Nat}{t:TypeId}{cs:Array Value}(h:AO w g t cs){i:Nat}{v:Value}(hv:cs[i]?=some v):w.setCell ⟨g,i,none⟩ v=w:=by
 unfold AO at h;have e:w.heap.modify g (λ|.cells c elem frozen=>.cells (if(none:Option Nat).isSome then c else c.setIfInBounds i v) elem frozen|o=>o)=w.heap:=by
  apply Array.ext_getElem?;intro k;rw[Array.getElem?_modify];split
  .rename_i e;subst e;rw[h];simp only[Option.map_some,JU,lI,O7,if_false];congr 1;apply Array.ext_getElem?;intro j;rw[Array.getElem?_setIfInBounds];split
   .rename_i e;subst e;split;.exact hv.symm
    rename_i hn;rw[Array.getElem?_eq_none I]at hv;cases hv
   rfl
  rfl
 show({w with heap:=w.heap.modify g _}:World)=w;cases w;congr 1
theorem ayP{p:Pl}(z:Ru p){X Y:List Int}(C:X∈BN p)(F:Y∈BN p)(e:JZ p (some X)=JZ p (some Y)):X=Y:=by
 have hd:=z.differ;unfold List.Nodup at hd;rw[H9,FT]at hd;obtain⟨i,hi,c⟩:=Dy.1 C;obtain⟨j,s,o⟩:=Dy.1 F;rcases Om i j with l|l|l;.exact absurd (by rw[c,o];exact e)<|hd i j hi s l
 .subst l;rw[<-c,<-o]
 exact absurd (by rw[c,o];exact e.symm)<|hd j i s hi l
theorem ayQ{p:Pl}(z:Ru p)(f:Int):(∃i:Nat,∃hi:i<(BN p).length,bW (PO p (BN p)<|(BN p).length+1) f=(i:Int)+1/\SY p f=some (BN p)[i])\/bW (PO p (BN p)<|(BN p).length+1) f<1/\SY p f=none:=by
 have C:∀k(hk:k<(BN p).length+1),(PO p (BN p)<|(BN p).length+1)[k]'(by rw[Vr];exact hk)=IJ p (BN p) k:=λk hk=>by unfold PO;rw[Ib,List.getElem_range]
 have o:∀i(hi:i<(BN p).length),IJ p (BN p) (i+1)=JZ p (some (BN p)[i]):=λi hi=>by rw[aW I I];rfl
 unfold bW;cases c:(PO p (BN p)<|(BN p).length+1).findIdx? λy=>y==f with
 |none=>refine .inr ⟨by show(-1:Int)<1;omega,?_⟩;cases c2:SY p f with|none=>rfl|some X=>obtain⟨s,e⟩:=ZP c2;obtain⟨i,hi,rfl⟩:=Dy.1 s;rw[List.findIdx?_eq_none_iff]at c;have:=c _<|BG (show i+1<(PO p (BN p)<|(BN p).length+1).length by rw[Vr];omega);rw[C (i+1) I,o i hi,e]at this;simp at this
 |some k=>obtain⟨hk,j,-⟩:=List.findIdx?_eq_some_iff_getElem.1 c;rw[Vr]at hk;rw[C k hk]at j;have j:=eq_of_beq j;cases k with
  |zero=>refine .inr ⟨by show((0:Nat):Int)<1;omega,?_⟩;cases c2:SY p f with|none=>rfl|some X=>obtain⟨s,e⟩:=ZP c2;exact absurd (show Ej p (X.headD 0)=0 from e.trans j.symm)<|z.some X s
  |succ i=>refine .inl ⟨i,I,by show((i+1:Nat):Int)=_;omega,?_⟩;rw[o i I]at j;cases c2:SY p f with|none=>exact absurd (beq_iff_eq.2 j)<|List.find?_eq_none.1 c2 _<|BG I|some X=>obtain⟨s,e⟩:=ZP c2;rw[ayP z s (BG _)<|e.trans j.symm]
