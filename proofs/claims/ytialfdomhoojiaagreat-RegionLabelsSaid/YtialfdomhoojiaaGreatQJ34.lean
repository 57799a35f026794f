import Derived.Test.YtialfdomhoojiaaGreatQJ33
set_option linter.unusedSimpArgs false
set_option linter.unusedVariables false
set_option maxRecDepth 100000
set_option maxHeartbeats 8000000
namespace Go.Proofs.YtialfdomhoojiaaGreat
open Go.RowKit
def pO (o:Option Pt):Value:=match o with
 | none=>.tuple #[.agg #[.int .i64 0,.int .i64 0],.bool false]
 | some v=>.tuple #[.agg #[.int .i64 v.x,.int .i64 v.y],.bool true]
def afW (p:Pl) (b:Option (List Int)) (y:Int):Option Pt:=((fQ (VI p b y)).2).map fun x=>⟨x,y⟩
theorem Valid.axz {p:Pl} (h:Valid p) {X:List Int} (hX:X∈BP p) {y:Int} {r:Rn} (hr:r∈VI p (some X) y):(-2097152<=r.lo/\r.lo<=2097152)/\(-2097152<=r.hi/\r.hi<=2097153):=by
 have hv:Mc (VI p (some X) y):=(aef _ _ (qE _).1 (qE _).1).1;have h0:=hv.1 r hr;have n1:=h.akU hX (y:=y) (x:=r.lo) ⟨r,hr,KH _,h0⟩;have n2:=h.akU hX (y:=y) (x:=r.hi-1) ⟨r,hr,AB,AB⟩;rw [Qr] at n1 n2;simp only at n1 n2;omega
theorem ay0 (v:Value) (p:Pl) (w:World) (h:Ci w v p) (hv:Valid p) (gm:Nat) (f:Int->SV) (hpm:Qe w gm p f) (x:AD) (X:List Int) (hX:X∈BP p)
  (ho:Ints w (BK x.ov) x.out) (hi:Sl w (BK x.iv) x.inn.length (x.inn.flatMap Ia)) (hc:∀ c∈x.inn,Ints w (BK c.2) c.1) (ha:Ints w (BK x.av) x.DC) (hcy:(MB x).map (·.1)=GR p (some X)) (hal:x.DC=aN p (some X)) (y:Int) :
  Calls Tryz.prog 82 #[.map (some gm),v,.agg #[.int .i64 x.tw,BK x.ov,BK x.iv,BK x.av],.int .i64 y] w fun e w'=>e=.returned (pO (afW p (some X) y))/\AU w w':=by
 have hb:some X∈Jp p:=I7 _ (Gh hX);have Ny:=AA (fun W (hW:AU w W)=>axy v p W (h.mono hW) hv gm f (hpm.keep hW) x (some X) hb (ho.mono hW) (hi.mono hW) (fun c hc'=>(hc c hc').mono hW) (ha.mono hW) hcy hal y);have MQ:=AA (fun r hr=>hv.axz hX (y:=y) (r:=r) hr);obtain ⟨R,hR⟩:=BN (VI p (some X) y);unfold afW;rw [hR] at Ny MQ ⊢;clear hR hb hpm hX ho hi hc ha hcy hal hv;obtain ⟨_,_,_,al,rfl,-,⟨An,cn,rfl,-⟩,⟨⟨Aa,ca,rfl,-⟩,-⟩,⟨Af,cf,rfl,-⟩⟩:=h;obtain ⟨tw,out,⟨oa,on,oc⟩,inn,⟨ia,II,ic⟩,DC,⟨aa,an,ac⟩⟩:=x;unfold BK at Ny ⊢;simp only at Ny ⊢;generalize p.nodes.length=nn at *;generalize al.length=na at *;generalize p.faces.length=nf at *;obtain ⟨q,hq⟩:=BN (((fQ R).2.map fun x=>(⟨x,y⟩:Pt)));rw [hq];have HQ:=AA hq;clear hq;go_enter Tryz.func82,Tryz.ntmps82;go_upto_region 2 with fail;obtain ⟨W1,hW⟩:∃ W:World,W=((w.alloc (.cells #[.slice An nn cn,.slice Aa na ca,.slice Af nf cf] 26)).alloc (.cells #[.int .i64 tw,.slice oa on oc,.slice ia II ic,.slice aa an ac] 82)).alloc (.cells #[.int .i64 0,.int .i64 0] 39):=⟨_,rfl⟩;have X5:AO W1 w.heap.size 26 #[.slice An nn cn,.slice Aa na ca,.slice Af nf cf]:=by rw [hW];exact ((AO.made rfl _ _).alloc _).alloc _
 have X6:AO W1 (w.heap.size+1) 82 #[.int .i64 tw,.slice oa on oc,.slice ia II ic,.slice aa an ac]:=by rw [hW];exact (AO.made Ak _ _).alloc _
 have X8:AO W1 (w.heap.size+1+1) 39 #[.int .i64 0,.int .i64 0]:=by rw [hW];exact AO.made Ak _ _
 have HA:=AA (show AU w W1 by rw [hW];exact bA (bA (bA (bR w) _) _) _);rw [<- hW];clear hW;obtain ⟨g8,h8⟩:∃ g,w.heap.size+1+1=g:=⟨_,rfl⟩;have Lr:w.heap.size<=g8:=by omega
 rw [h8] at X8 ⊢;have UO:=AA X8;clear h8 X8;obtain ⟨CJ,CO,CS,F8,-,-,-⟩:=X5.Az;obtain ⟨EK,EL,EM,ML,QM,-,-,-,-⟩:=X6.N7;go_wp2_with fail;refine (Ny.out _ HA.out).mono ?_;rintro e w2 ⟨A,c,rfl,hown,hb2⟩;have HO:=AA (hown.ES HA.out.size);have HB2:=AA (bT HA.out hb2);have HX:=AA (UO.out.keep hb2);have hRl:R.length<=9223372036854775807:=by
  obtain ⟨_,_,_,h1,h2,-⟩:=hown.sl;unfold maxLen at h2;omega
 clear hown hb2 UO Ny HA X5 CJ CO CS F8 X6 EK EL EM ML QM;go_upto_block 0 with fail;go_wp2_with fail;go_loopw [20,10,9] (fun i m ok wr=>∃ (k:Nat) (s:Int×Option Int),k<=R.length/\i=.int .i64 k/\fQ (R.take k)=s/\m=.int .i64 s.1/\ok=.bool s.2.isSome/\Own wr w.heap.size 121 2 GZ (.slice A R.length c) R/\AO wr g8 39 #[.int .i64 (s.2.getD 0),.int .i64 (if s.2.isSome=true then y else 0)]/\AU w wr) (fun i _ _ _=>R.length-(intOf i).toNat)
 case atStart => exact ⟨0,(0,none),Bv _,rfl,rfl,rfl,rfl,HO.out,HX.out,HB2.out⟩
 case round =>
  obtain ⟨k,s,hk,rfl,hs,rfl,rfl,hO,X8,hbw⟩:=hrel;obtain ⟨wo,rfl⟩:=BR wr;have F9:=AA hO;have CG:=AA X8;have Ep:=AA hbw;by_cases hlt:k<R.length
  ·obtain ⟨A',c',he,-,-,Jb⟩:=hO.sl;injection he with q1 q2 q3;subst q1 q3;clear q2;obtain ⟨b',o',rfl,hlb,c0,c1⟩:=Jb.rn hlt;have hst:=awP hlt;rw [hs] at hst;have hbd:=MQ.out _ (BO hlt);generalize R[k]=r at *;obtain ⟨lo,hi⟩:=r;obtain ⟨m0,o⟩:=s;simp only at c0 c1 hbd;unfold aeh at hst;simp only at hst;have DU:=AA hst;have k1:IntKind.i64.wrap (hi-lo)=hi-lo:=D6 _ AB;have k2:IntKind.i64.wrap (lo+hi)=lo+hi:=D6 _ AB;have k3:IntKind.i64.wrap (lo+hi-1)=lo+hi-1:=D6 _ AB;clear hs hst hO Jb HO HX HB2 hbw;by_cases hgt:m0<hi-lo
   ·have hst:=DU.out;rw [AZ hgt] at hst;have Xu:=AA hst;have OZ:=X8;clear hst DU;obtain ⟨OI,OY,OZ,abB,abC⟩:=X8.BQ;go_wp2_with fail;have hne:=Own.Dz F9.out CG.out Aw;go_roundw
    case measure => exact BL
    case rel => exact ⟨k+1,_,AB,BJ,Xu.out,rfl,rfl,((F9.out.far (p:=⟨g8,0,none⟩) hne _).far (p:=⟨g8,1,none⟩) hne _).alloc _,(AO.QF CG.out).alloc _,bA (bS (p:=⟨g8,1,none⟩) (bS (p:=⟨g8,0,none⟩) Ep.out Lr _) Lr _) _⟩
   ·have hst:=DU.out;rw [AX hgt] at hst;have Xu:=AA hst;clear hst DU;go_wp2;go_roundw
    case measure => exact BL
    case rel => exact ⟨k+1,_,AB,BJ,Xu.out,rfl,rfl,F9.out.alloc _,CG.out.alloc _,bA Ep.out _⟩
  ·obtain rfl:k=R.length:=by omega
   rw [I4] at hs;have hq:=HQ.out;rw [hs] at hq;have OO:=AA hq;clear hs hq HQ hO;obtain ⟨m0,o⟩:=s;simp only at X8 OO CG;have hl8:=X8.lt
   cases o with
   | none =>
    have HR:=AA (show q=none from OO.out.symm);simp only [rV,gX,Rq,if_false] at X8 CG
    try clear OI OY OZ
    try clear abB abC
    obtain ⟨OI,OY,OZ,abB,abC⟩:=X8.BQ;go_wp2_with fail;refine L9 (t:=39) (g:=g8) (cs:=#[.int .i64 0,.int .i64 0]) rfl Xv rfl rfl (AO.QF CG.out) ⟨by rw [HR.out];rfl,bS (p:=⟨g8,1,none⟩) (bS (p:=⟨g8,0,none⟩) Ep.out Lr _) Lr _⟩
   | some z =>
    have HR:=AA (show q=some ⟨z,y⟩ from OO.out.symm);simp only [H9,VP,if_true] at X8 CG
    try clear OI OY OZ
    try clear abB abC
    obtain ⟨OI,OY,OZ,abB,abC⟩:=X8.BQ;go_wp2_with fail;refine L9 (t:=39) (g:=g8) (cs:=#[.int .i64 z,.int .i64 y]) rfl Xv rfl rfl (AO.QF CG.out) ⟨by rw [HR.out];rfl,bS (p:=⟨g8,1,none⟩) (bS (p:=⟨g8,0,none⟩) Ep.out Lr _) Lr _⟩
def gK (x:Bx):Array Value:=#[.int .i64 x.x0,.int .i64 x.y0,.int .i64 x.x1,.int .i64 x.y1]
theorem ay1 (v:Value) (l:List Pt) (w:World) (h:Dv w v l) (hne:0<l.length):Calls Tryz.prog 81 #[v] w fun e w'=>e=.returned (.agg (gK (P8 l)))/\AU w w':=by
 obtain ⟨A,c,rfl,hn1,hn2,hR⟩:=h;unfold maxLen at hn2;have HR:=AA hR;obtain ⟨b,o,rfl,hlb,c0,c1⟩:=hR.pt hne;simp only [sU,YJ] at c0 c1;obtain ⟨R,hRr⟩:=BN (P8 l);rw [hRr];have hR2:l.foldl Oc ⟨l[0].x,l[0].y,l[0].x,l[0].y⟩=R:=by
  rw [<- hRr]
  cases l with
  | nil=>cases hne
  | cons a l=>rfl
 obtain ⟨p0,hp0⟩:=BN (l[0]);rw [hp0] at c0 c1 hR2;have RP:=AA hR2;have hk0:(0:Int)<l.length:=by omega
 have hkn:¬ l=[]:=fun e=>by rw [e] at hne;cases hne
 have hkz:((l.length:Int) == 0)=false:=by rw [beq_eq_false_iff_ne];omega
 have azH:(l.length == 0)=false:=by rw [beq_eq_false_iff_ne];omega
 clear hR hRr hR2 hp0;go_enter Tryz.func81,Tryz.ntmps81;go_upto_region 1 with fail;obtain ⟨W1,hW⟩:∃ W:World,W=w.alloc (.cells #[.int .i64 0,.int .i64 0,.int .i64 0,.int .i64 0] 73):=⟨_,rfl⟩;obtain ⟨g2,hg2⟩:=BN w.heap.size;have X2:AO W1 g2 73 #[.int .i64 0,.int .i64 0,.int .i64 0,.int .i64 0]:=by rw [hW];exact AO.made hg2.symm _ _
 have hA:AU w W1:=by rw [hW];exact bA (bR w) _
 have HB1:=AA hA;rw [<- hW];replace c0:=Eh hA c0;replace c1:=Eh hA c1;have vP:b<W1.heap.size:=by have:=hA.size;omega
 have hbg:some b≠some g2:=fun e=>by have:=Dq e;omega
 have CG:=AA X2;have hgw:w.heap.size<=g2:=by omega
 clear hW hA
 try rw [hg2]
 obtain ⟨BU,BX,Bg,CB,vG,Qp,V5,WI,afX⟩:=X2.N7;go_upto_region 3 with fail;refine UY (W1) (some g2) (.run 17 0 0 (.call 17 262143 (.done))) fun CU QR Ae Ah hS=>?_
 iterate 17 refine Aj ?_
 refine Bj ?_;clear hS;intro K hK AQ;go_simp;refine hK.out _ _ (by first | exact gS AQ.out _ _ | (unfold JU;have Rf:World.grownBy _ _ _:=AQ.out;repeat (first | with_reducible assumption | with_reducible exact World.grownBy.refl _ _ | with_reducible refine gS ?_ _ _ | with_reducible refine gD ?_ | with_reducible refine gA ?_ _))) (fun hS=>?_);clear hK K AQ
 try simp only [pu]
 refine Qq ?_;clear hS Ah Ae;intro hB;skip;have MQ:=AA (show Below g2 W1 W1.drew from Below.drew (Below.refl g2 W1));clear hB c0 c1 BU BX Bg CB vG Qp V5 WI afX;go_wp2_with fail;go_loopw [28] (fun u wr=>∃ (k:Nat) (x:Bx),k<=l.length/\u=.int .i64 k/\x=(l.take k).foldl Oc ⟨p0.x,p0.y,p0.x,p0.y⟩/\AO wr g2 73 #[.int .i64 x.x0,.int .i64 x.y0,.int .i64 x.x1,.int .i64 x.y1]/\Below g2 W1 wr) (fun u _=>l.length-(intOf u).toNat)
 case atStart => exact ⟨0,⟨p0.x,p0.y,p0.x,p0.y⟩,Bv _,rfl,rfl,AO.jA CG.out.drew,(((MQ.out.setCell (p:=⟨g2,0,none⟩) (Dc _) _).setCell (p:=⟨g2,1,none⟩) (Dc _) _).setCell (p:=⟨g2,2,none⟩) (Dc _) _).setCell (p:=⟨g2,3,none⟩) (Dc _) _⟩
 case round =>
  obtain ⟨k,x,hk,rfl,hx,X3,hb⟩:=hrel;obtain ⟨wo,rfl⟩:=BR wr;have Hb:=AA hb;have HX:=AA hx;have yU:=AA X3;have l3:=X3.lt;have Ep:=AA (show AU w wo from HB1.out.trans (hb.mono hgw));clear hb hx;by_cases hlt:k<l.length
  ·obtain ⟨b',o',hA',QJ,c0,c1⟩:=(HR.out.mono Ep.out).pt hlt;injection hA' with hA';injection hA' with y1 y2 _;subst y1 y2;have hst:(l.take (k+1)).foldl Oc ⟨p0.x,p0.y,p0.x,p0.y⟩=Oc x l[k]:=by
    rw [F7 hlt,Oi,<- HX.out];rfl
   unfold Oc at hst;have DU:=AA hst;generalize l[k]=p at *;clear hst;go_upto_region 7 with fail;obtain ⟨W2,hW2⟩:∃ W:World,W=wo.alloc (.cells #[.int .i64 p.x,.int .i64 p.y] 39):=⟨_,rfl⟩;have hA1:AU wo W2:=by rw [hW2];exact bA (bR wo) _
   obtain ⟨g5,hg5⟩:=BN wo.heap.size;have X5:AO W2 g5 39 #[.int .i64 p.x,.int .i64 p.y]:=by rw [hW2];exact AO.made hg5.symm _ _
   have HB2:=AA (show Below g2 W1 W2 by rw [hW2];exact Hb.out.alloc (by have:=Hb.out.size;have:=CG.out.lt;omega) _);have n5:¬ g5=g2:=by omega
   have D8:=AA (yU.out.keep hA1);have DI:=AA X5;rw [<- hW2]
   try rw [hg5]
   clear hW2 hA1 hg5 X3 c0 c1 yU Hb Ep;have X4:=D8.out;obtain ⟨BZ,Bl,CQ,EU,KX,EG,FW,JC,QI⟩:=X4.N7;obtain ⟨CJ,CO,CS,-,-⟩:=X5.BQ;go_cut [33] (fun u wx=>AO wx g2 73 #[.int .i64 (min x.x0 p.x),.int .i64 x.y0,.int .i64 (max x.x1 p.x),.int .i64 x.y1]/\AO wx g5 39 #[.int .i64 p.x,.int .i64 p.y]/\Below g2 W1 wx)
   case first =>
    obtain ⟨m1,hm1⟩:=BR (if p.x<x.x0 then p.x else x.x0);obtain ⟨m2,hm2⟩:=BR (if x.x1<p.x then p.x else x.x1);have hfin:AO (((W2.setCell ⟨g2,0,none⟩ (.int .i64 m1)).setCell ⟨g2,2,none⟩ (.int .i64 m2))).drew g2 73 #[.int .i64 (min x.x0 p.x),.int .i64 x.y0,.int .i64 (max x.x1 p.x),.int .i64 x.y1]/\AO (((W2.setCell ⟨g2,0,none⟩ (.int .i64 m1)).setCell ⟨g2,2,none⟩ (.int .i64 m2))).drew g5 39 #[.int .i64 p.x,.int .i64 p.y]/\Below g2 W1 (((W2.setCell ⟨g2,0,none⟩ (.int .i64 m1)).setCell ⟨g2,2,none⟩ (.int .i64 m2))).drew:=by
     refine ⟨?_,((DI.out.far (p:=⟨g2,0,none⟩) n5 _).far (p:=⟨g2,2,none⟩) n5 _).drew,((HB2.out.setCell (p:=⟨g2,0,none⟩) (Dc _) _).setCell (p:=⟨g2,2,none⟩) (Dc _) _).drew⟩;have h:=AO.EI (AO.EI D8.out 0 (.int .i64 m1)) 2 (.int .i64 m2);have e1:min x.x0 p.x=m1:=by rw [hm1];split<;>omega
     have e2:max x.x1 p.x=m2:=by rw [hm2];split<;>omega
     rw [e1,e2];refine AO.drew ?_;simpa using h
    have WO:=AA hfin;have yV:=AA hm1;have aA4:=AA hm2;have aA5:=AA (show min x.x0 p.x=m1 by rw [hm1];split<;>omega);have aA6:=AA (show max x.x1 p.x=m2 by rw [hm2];split<;>omega);clear hfin hm1 hm2;go_upto_region 7 with fail;refine UY (W2) (some g2) (.take 0 1 (.take 2 5 (.take 3 13 (.take 5 45 (.take 7 173 (.take 8 429 (.two 1 431 (.take 4 447 (.call 6 511 (.take 9 1023 (.take 10 2047 (.call 11 4095 (.take 12 8191 (.call 13 16383 (.done)))))))) 6 493 (.take 9 1005 (.call 1 1007 (.take 4 1023 (.take 10 2047 (.call 11 4095 (.take 12 8191 (.call 13 16383 (.done))))))))))))))) fun CU QR Ae Ah hS=>?_
    iterate 6 refine Aj ?_
    refine PD (i:=1) (j:=6) (Ew Ae rfl) (Ew Ae rfl) (fun K hK=>?_) (fun K hK=>?_)
    ·have AQ:=AA hS;clear hS;refine FY (FV rfl) ?_;go_simp;refine hK.out _ _ AQ.out (fun hS=>?_);clear hK K AQ
     try simp only [pu]
     refine Aj ?_;refine Bj ?_;clear hS;intro K hK AQ;go_simp;refine hK.out _ _ AQ.out (fun hS=>?_);clear hK K AQ
     try simp only [pu]
     iterate 2 refine Aj ?_
     refine Bj ?_;clear hS;intro K hK AQ;go_simp;refine hK.out _ _ (by first | exact gS AQ.out _ _ | (unfold JU;have Rf:World.grownBy _ _ _:=AQ.out;repeat (first | with_reducible assumption | with_reducible exact World.grownBy.refl _ _ | with_reducible refine gS ?_ _ _ | with_reducible refine gD ?_ | with_reducible refine gA ?_ _))) (fun hS=>?_);clear hK K AQ
     try simp only [pu]
     refine Aj ?_;refine Bj ?_;clear hS;intro K hK AQ;go_simp;refine hK.out _ _ (by first | exact gS AQ.out _ _ | (unfold JU;have Rf:World.grownBy _ _ _:=AQ.out;repeat (first | with_reducible assumption | with_reducible exact World.grownBy.refl _ _ | with_reducible refine gS ?_ _ _ | with_reducible refine gD ?_ | with_reducible refine gA ?_ _))) (fun hS=>?_);clear hK K AQ
     try simp only [pu]
     refine Qq ?_;clear hS Ah Ae;intro hB
     first | rw [<- yV.out,<- aA4.out] | rw [aA5.out,aA6.out]
     go_wp2;go_meet
     case rel => exact WO.out
    ·have AQ:=AA hS;clear hS;refine FY (FV rfl) ?_;go_simp;refine hK.out _ _ AQ.out (fun hS=>?_);clear hK K AQ
     try simp only [pu]
     refine Aj ?_;refine Bj ?_;clear hS;intro K hK AQ;go_simp;refine hK.out _ _ AQ.out (fun hS=>?_);clear hK K AQ
     try simp only [pu]
     iterate 2 refine Aj ?_
     refine Bj ?_;clear hS;intro K hK AQ;go_simp;refine hK.out _ _ (by first | exact gS AQ.out _ _ | (unfold JU;have Rf:World.grownBy _ _ _:=AQ.out;repeat (first | with_reducible assumption | with_reducible exact World.grownBy.refl _ _ | with_reducible refine gS ?_ _ _ | with_reducible refine gD ?_ | with_reducible refine gA ?_ _))) (fun hS=>?_);clear hK K AQ
     try simp only [pu]
     refine Aj ?_;refine Bj ?_;clear hS;intro K hK AQ;go_simp;refine hK.out _ _ (by first | exact gS AQ.out _ _ | (unfold JU;have Rf:World.grownBy _ _ _:=AQ.out;repeat (first | with_reducible assumption | with_reducible exact World.grownBy.refl _ _ | with_reducible refine gS ?_ _ _ | with_reducible refine gD ?_ | with_reducible refine gA ?_ _))) (fun hS=>?_);clear hK K AQ
     try simp only [pu]
     refine Qq ?_;clear hS Ah Ae;intro hB
     first | rw [<- yV.out,<- aA4.out] | rw [aA5.out,aA6.out]
     go_wp2;go_meet
     case rel => exact WO.out
   case rest =>
   obtain ⟨hx4,hx5,hb4⟩:=hcut;obtain ⟨wv,rfl⟩:=BR wc;have IX:=AA hx4;have Ip:=AA hx5;have HB4:=AA hb4;clear hx4 hx5 hb4 X4 BZ Bl CQ EU KX EG FW JC QI X5 CJ CO CS D8 DI HB2;have X6:=IX.out;have X7:=Ip.out;obtain ⟨EK,EL,EM,ML,QM,Xw,Xd,auV,azI⟩:=X6.N7;obtain ⟨Eb,Ec,Fe,-,-⟩:=X7.BQ;obtain ⟨m1,hm1⟩:=BR (if p.y<x.y0 then p.y else x.y0);obtain ⟨m2,hm2⟩:=BR (if x.y1<p.y then p.y else x.y1);have hfin:AO (((wv.setCell ⟨g2,1,none⟩ (.int .i64 m1)).setCell ⟨g2,3,none⟩ (.int .i64 m2))).drew g2 73 #[.int .i64 (min x.x0 p.x),.int .i64 (min x.y0 p.y),.int .i64 (max x.x1 p.x),.int .i64 (max x.y1 p.y)]/\Below g2 W1 (((wv.setCell ⟨g2,1,none⟩ (.int .i64 m1)).setCell ⟨g2,3,none⟩ (.int .i64 m2))).drew:=by
    refine ⟨?_,((HB4.out.setCell (p:=⟨g2,1,none⟩) (Dc _) _).setCell (p:=⟨g2,3,none⟩) (Dc _) _).drew⟩;have h:=AO.EI (AO.EI IX.out 1 (.int .i64 m1)) 3 (.int .i64 m2);have e1:min x.y0 p.y=m1:=by rw [hm1];split<;>omega
    have e2:max x.y1 p.y=m2:=by rw [hm2];split<;>omega
    rw [e1,e2];refine AO.drew ?_;simpa using h
   have WO:=AA hfin;have yV:=AA hm1;have aA4:=AA hm2;have aA5:=AA (show min x.y0 p.y=m1 by rw [hm1];split<;>omega);have aA6:=AA (show max x.y1 p.y=m2 by rw [hm2];split<;>omega);clear hfin hm1 hm2;go_upto_region 8 with fail;refine UY (wv) (some g2) (.take 0 1 (.take 2 5 (.take 3 13 (.take 5 45 (.take 7 173 (.take 8 429 (.two 1 431 (.take 4 447 (.call 6 511 (.take 9 1023 (.take 10 2047 (.call 11 4095 (.take 12 8191 (.call 13 16383 (.done)))))))) 6 493 (.take 9 1005 (.call 1 1007 (.take 4 1023 (.take 10 2047 (.call 11 4095 (.take 12 8191 (.call 13 16383 (.done))))))))))))))) fun CU QR Ae Ah hS=>?_
   iterate 6 refine Aj ?_
   refine PD (i:=1) (j:=6) (Ew Ae rfl) (Ew Ae rfl) (fun K hK=>?_) (fun K hK=>?_)
   ·have AQ:=AA hS;clear hS;refine FY (FV rfl) ?_;go_simp;refine hK.out _ _ AQ.out (fun hS=>?_);clear hK K AQ
    try simp only [pu]
    refine Aj ?_;refine Bj ?_;clear hS;intro K hK AQ;go_simp;refine hK.out _ _ AQ.out (fun hS=>?_);clear hK K AQ
    try simp only [pu]
    iterate 2 refine Aj ?_
    refine Bj ?_;clear hS;intro K hK AQ;go_simp;refine hK.out _ _ (by first | exact gS AQ.out _ _ | (unfold JU;have Rf:World.grownBy _ _ _:=AQ.out;repeat (first | with_reducible assumption | with_reducible exact World.grownBy.refl _ _ | with_reducible refine gS ?_ _ _ | with_reducible refine gD ?_ | with_reducible refine gA ?_ _))) (fun hS=>?_);clear hK K AQ
    try simp only [pu]
    refine Aj ?_;refine Bj ?_;clear hS;intro K hK AQ;go_simp;refine hK.out _ _ (by first | exact gS AQ.out _ _ | (unfold JU;have Rf:World.grownBy _ _ _:=AQ.out;repeat (first | with_reducible assumption | with_reducible exact World.grownBy.refl _ _ | with_reducible refine gS ?_ _ _ | with_reducible refine gD ?_ | with_reducible refine gA ?_ _))) (fun hS=>?_);clear hK K AQ
    try simp only [pu]
    refine Qq ?_;clear hS Ah Ae;intro hB
    first | rw [<- yV.out,<- aA4.out] | rw [aA5.out,aA6.out]
    go_wp2;go_roundw
    case rel => exact ⟨k+1,_,AB,BJ,DU.out.symm,WO.out.1,WO.out.2⟩
    case measure => exact BL
   ·have AQ:=AA hS;clear hS;refine FY (FV rfl) ?_;go_simp;refine hK.out _ _ AQ.out (fun hS=>?_);clear hK K AQ
    try simp only [pu]
    refine Aj ?_;refine Bj ?_;clear hS;intro K hK AQ;go_simp;refine hK.out _ _ AQ.out (fun hS=>?_);clear hK K AQ
    try simp only [pu]
    iterate 2 refine Aj ?_
    refine Bj ?_;clear hS;intro K hK AQ;go_simp;refine hK.out _ _ (by first | exact gS AQ.out _ _ | (unfold JU;have Rf:World.grownBy _ _ _:=AQ.out;repeat (first | with_reducible assumption | with_reducible exact World.grownBy.refl _ _ | with_reducible refine gS ?_ _ _ | with_reducible refine gD ?_ | with_reducible refine gA ?_ _))) (fun hS=>?_);clear hK K AQ
    try simp only [pu]
    refine Aj ?_;refine Bj ?_;clear hS;intro K hK AQ;go_simp;refine hK.out _ _ (by first | exact gS AQ.out _ _ | (unfold JU;have Rf:World.grownBy _ _ _:=AQ.out;repeat (first | with_reducible assumption | with_reducible exact World.grownBy.refl _ _ | with_reducible refine gS ?_ _ _ | with_reducible refine gD ?_ | with_reducible refine gA ?_ _))) (fun hS=>?_);clear hK K AQ
    try simp only [pu]
    refine Qq ?_;clear hS Ah Ae;intro hB
    first | rw [<- yV.out,<- aA4.out] | rw [aA5.out,aA6.out]
    go_wp2;go_roundw
    case rel => exact ⟨k+1,_,AB,BJ,DU.out.symm,WO.out.1,WO.out.2⟩
    case measure => exact BL
  ·have hxr:x=R:=by rw [HX.out,IQ AB,RP.out]
   have HXr:=AA hxr;clear hxr;obtain ⟨Dk,EJ,ET,I9,KZ,dQ,uj,amf,amg⟩:=X3.N7;go_wp2_with fail;refine iL (g:=g2) (cs:=#[.int .i64 x.x0,.int .i64 x.y0,.int .i64 x.x1,.int .i64 x.y1]) rfl anE rfl rfl (AO.jA yU.out) ⟨by rw [HXr.out];rfl,?_⟩;exact (((Ep.out.setCell (p:=⟨g2,0,none⟩) hgw _).setCell (p:=⟨g2,1,none⟩) hgw _).setCell (p:=⟨g2,2,none⟩) hgw _).setCell (p:=⟨g2,3,none⟩) hgw _
structure ZT (w:World) (B g:Nat) (l:List Pt) (v:Value):Prop where
 box:AO w g 46 #[v]
 own:Own w B 39 2 Ee v l
theorem ZT.keep {w w':World} {B g:Nat} {l:List Pt} {v:Value} (h:ZT w B g l v) (hb:AU w w'):ZT w' B g l v:=⟨h.box.keep hb,h.own.keep hb⟩
theorem ay2 (a b:Pt) (B g:Nat) (l:List Pt) (v:Value) (w:World) (h:ZT w B g l v) (hBw:B<=w.heap.size) (hl:l.length<=1000000) :
  Calls Tryz.prog 80 #[BA a,BA b,.pointer (some ⟨g,0,none⟩)] w fun e w'=>e=.returned (.tuple #[])/\(∃ v',ZT w' B g (l++[a,b]) v')/\J9 B g g w w':=by
 obtain ⟨X4,own⟩:=h;obtain ⟨A,c,rfl,-⟩:=Own.sl own;have n4:=Own.Dz own X4 Aw;have hg:=X4.lt;unfold BA;go_enter Tryz.func80,Tryz.ntmps80;go_upto_region 1 with fail;obtain ⟨W1,hW⟩:∃ W:World,W=(w.alloc (.cells #[.int .i64 a.x,.int .i64 a.y] 39)).alloc (.cells #[.int .i64 b.x,.int .i64 b.y] 39):=⟨_,rfl⟩;have X5:AO W1 w.heap.size 39 #[.int .i64 a.x,.int .i64 a.y]:=by rw [hW];exact (AO.made rfl _ _).alloc _
 have X6:AO W1 (w.heap.size+1) 39 #[.int .i64 b.x,.int .i64 b.y]:=by rw [hW];exact AO.made Ak _ _
 have hA:AU w W1:=by rw [hW];exact bA (bA (bR w) _) _
 replace X4:=X4.keep hA;have D8:=AA X4;have HO:=AA (own.keep hA);have HA:=AA hA;have hB1:B<=W1.heap.size:=EH hBw hA.size;have hsh:(l++[a,b]).length=l.length+2:=by simp
 have DW:=AA hsh;have HN:=AA n4;rw [<- hW];clear hW hA own hsh n4;obtain ⟨BZ,Bl,EG⟩:=X4.Fb;obtain ⟨CJ,CO,CS,-,-⟩:=X5.BQ;obtain ⟨EK,EL,EM,-,-⟩:=X6.BQ;go_wp2_with
  (at_builtin
   refine FK _ rfl (.tmp 5) (.tmp 8) _ rfl (base:=B) L6 KJ L8 rfl (Own.alloc HO.out _) rfl (l2:=[a,b]) (Sl.lit (n:=2) (AO.made rfl _ _) rfl (DN AB)) DZ DZ DT ?_;intro v3 w3 ho3 hg3 LK;obtain ⟨A3,c3,hv3,-⟩:=ho3.sl;rw [DW.out] at hv3;subst hv3;have Q8:=AO.grown (D8.out.alloc _) hg3 (fun e=>HN.out e.symm);have HF:=AA (show ZT (w3.setCell ⟨g,0,none⟩ (.slice A3 (l.length+2) c3)) B g (l++[a,b]) (.slice A3 (l.length+2) c3) from ⟨Q8.EI 0 _,ho3.far (p:=⟨g,0,none⟩) (Own.Dz ho3 Q8 Aw) _⟩);have HK:=AA (show J9 B g g W1 (w3.setCell ⟨g,0,none⟩ (.slice A3 (l.length+2) c3)) from ⟨fun w0 k1 k2 k3 _=>bS (p:=⟨g,0,none⟩) (bG (bA k1 _) hg3 (fun k hk=>EH k2 (HO.out.lt k hk).1)) k3 _,(by have:=hg3.size;simp at this;simp;omega),fun g1 k1 k2 _=>by
    rw [Below.heap_setCell w3 ⟨g,0,none⟩ _ g1 k2,hg3.block g1 DT (fun e=>by have:=(HO.out.lt g1 e.symm).1;omega)];exact Below.heap_alloc W1 _ g1 AB⟩)
   clear ho3 hg3 LK X4 BZ Bl EG;obtain ⟨gG,gI,gJ⟩:=Q8.Fb
   )
 exact bodyPost_end (v:=.tuple #[]) (results_none rfl _ _ _) rfl ⟨rfl,⟨_,HF.out⟩,(J9.of hBw HA.out).trans HK.out⟩
structure amh (w:World) (B g:Nat) (S:List (Pt×Pt)) (w2 W:World):Prop where
 st:∃ v,ZT W B g (Ky S) v
 kept:J9 B g g w2 W
 below:AU w W
theorem ay3 (S:List (Pt×Pt)) (q:Pt×Pt):Ky (S++[q])=Ky S++[q.1,q.2]:=by unfold Ky;rw [LC];rfl
theorem ay4 (S:List (Pt×Pt)):(Ky S).length=2*S.length:=by
 unfold Ky
 induction S with
 | nil=>rfl
 | cons q S ih=>rw [KI,ER,ih];simp;omega
theorem ay5 (w:World) (gm:Nat) (p:Pl) (f:Int->SV) (hpm:Qe w gm p f) (hv:Valid p) (vc:Value) (X:List Int) (hX:Ints w vc X) (hd:∀ d∈X,d∈Bh p) (B g:Nat)
  (hl:(DV p X).length<=40000) (k1:w.heap.size<=B) (k2:w.heap.size<=g) (W:World) (hB:B<=W.heap.size) (v0:Value) (h0:ZT W B g [] v0) (hw:AU w W) :
  Calls Tryz.prog 79 #[.map (some gm),vc,.func (.func 80) #[] #[.pointer (some ⟨g,0,none⟩)]] W fun e W'=>e=.returned (.tuple #[])/\amh w B g (DV p X) W W':=by
 refine (axF w gm p f hpm hv vc X hX hd g (fun s W'=>amh w B g s W W') (fun s q=>s++[q]) (fun s W h=>h.below) (fun s W' h=>⟨by obtain ⟨⟨v,h1⟩,-,-⟩:=h;exact ⟨v,h1.keep (bD (bR W'))⟩,h.kept.trans ⟨fun w0 k _ _ _=>bD k,Dc _,fun _ _ _ _=>rfl⟩,bD h.below⟩) [] (fun S0 W' q r hs h=>?_) W ⟨⟨v0,h0⟩,J9.refl _ _ _ _,hw⟩).mono ?_
 ·rw [foldl_snoc,Qj] at h ⊢;obtain ⟨⟨v,hst⟩,hk,hb⟩:=h;have hlen:S0.length<=40000:=by
   have:=congrArg List.length hs
   simp only [ER,IU] at this;omega
  refine (ay2 q.1 q.2 B g _ v W' hst (EH hB hk.size) (by rw [ay4];omega)).mono ?_;rintro e W2 ⟨rfl,⟨v',hst'⟩,hk2⟩;exact ⟨rfl,⟨⟨v',by rw [ay3];exact hst'⟩,hk.trans hk2,hk2.below w hb k1 k2 k2⟩,hk2.base hb k1 k2 k2⟩
 ·rintro e W' ⟨rfl,h,-⟩;rw [foldl_snoc,Qj] at h;exact ⟨rfl,h⟩
theorem ami {w:World} {g:Nat} {t:TypeId} {cs:Array Value} (h:AO w g t cs) {i:Nat} {v:Value} (hv:cs[i]? = some v):w.setCell ⟨g,i,none⟩ v=w:=by
 unfold AO at h;have e:w.heap.modify g (fun
   | .cells c elem frozen=>.cells (if (none:Option Nat).isSome then c else c.setIfInBounds i v) elem frozen
   | o=>o)=w.heap:=by
  apply Array.ext_getElem?;intro k;rw [Array.getElem?_modify];split
  ·rename_i e;subst e;rw [h];simp only [Option.map_some,JM,gX,Rq,if_false];congr 1;apply Array.ext_getElem?;intro j;rw [Array.getElem?_setIfInBounds];split
   ·rename_i e;subst e;split
    · exact hv.symm
    · rename_i hn;rw [Array.getElem?_eq_none AB] at hv;cases hv
   · rfl
  · rfl
 show ({w with heap:=w.heap.modify g _}:World)=w
 cases w;congr 1
theorem ay6 {p:Pl} (hf:aO p) {X Y:List Int} (hX:X∈BP p) (hY:Y∈BP p) (e:NR p (some X)=NR p (some Y)):X=Y:=by
 have hd:=hf.differ;unfold List.Nodup at hd;rw [I5,Fa] at hd;obtain ⟨i,hi,e1⟩:=EF.1 hX;obtain ⟨j,hj,e2⟩:=EF.1 hY;rcases PN i j with l | l | l
 · exact absurd (by rw [e1,e2];exact e) (hd i j hi hj l)
 · subst l;rw [<- e1,<- e2]
 · exact absurd (by rw [e1,e2];exact e.symm) (hd j i hj hi l)
theorem ay7 {p:Pl} (hf:aO p) (f:Int):(∃ i:Nat,∃ hi:i<(BP p).length,ZV (Ns p (BP p) ((BP p).length+1)) f=(i:Int)+1/\lC p f=some (BP p)[i])\/(ZV (Ns p (BP p) ((BP p).length+1)) f<1/\lC p f=none):=by
 have hF:∀ k (hk:k<(BP p).length+1),(Ns p (BP p) ((BP p).length+1))[k]'(by rw [U6];exact hk)=Ih p (BP p) k:=fun k hk=>by
  unfold Ns;rw [Gp,List.getElem_range]
 have hfc:∀ i (hi:i<(BP p).length),Ih p (BP p) (i+1)=NR p (some (BP p)[i]):=fun i hi=>by rw [Zf AB AB];rfl
 unfold ZV
 cases c:(Ns p (BP p) ((BP p).length+1)).findIdx? (fun y=>y == f) with
 | none =>
  refine .inr ⟨by show (-1:Int)<1;omega,?_⟩
  cases c2:lC p f with
  | none=>rfl
  | some X =>
   obtain ⟨hX,e⟩:=aem c2;obtain ⟨i,hi,rfl⟩:=EF.1 hX;rw [List.findIdx?_eq_none_iff] at c;have:=c _ (BO (show i+1<(Ns p (BP p) ((BP p).length+1)).length by rw [U6];omega))
   rw [hF (i+1) AB,hfc i hi,e] at this;simp at this
 | some k =>
  obtain ⟨hk,he,-⟩:=List.findIdx?_eq_some_iff_getElem.1 c;rw [U6] at hk;rw [hF k hk] at he;have he:=eq_of_beq he
  cases k with
  | zero =>
   refine .inr ⟨by show ((0:Nat):Int)<1;omega,?_⟩
   cases c2:lC p f with
   | none=>rfl
   | some X =>
    obtain ⟨hX,e⟩:=aem c2;exact absurd (show IK p (X.headD 0)=0 from e.trans he.symm) (hf.some X hX)
  | succ i =>
   refine .inl ⟨i,AB,by show ((i+1:Nat):Int)=_;omega,?_⟩;rw [hfc i AB] at he
   cases c2:lC p f with
   | none=>exact absurd (beq_iff_eq.2 he) (List.find?_eq_none.1 c2 _ (BO AB))
   | some X =>
    obtain ⟨hX,e⟩:=aem c2;rw [ay6 hf hX (BO _) (e.trans he.symm)]
theorem amj (a b:Int) (W:World):(Instr.index 116 (.agg #[.int .i64 a,.int .i64 b]) (.int .i64 0)).run Tryz.prog W=.ok (.int .i64 a) W/\(Instr.index 116 (.agg #[.int .i64 a,.int .i64 b]) (.int .i64 1)).run Tryz.prog W=.ok (.int .i64 b) W:=⟨I8,I8⟩
theorem azJ (v:Value) (p:Pl) (fc:Int) (w:World) (h:Ci w v p) (hv:Ib p≠0):Calls Tryz.prog 30 #[v,.int .i64 fc] w fun e w'=>e=.returned (pO none)/\AU w w':=by
 have HC:=AA (fun W (hW:AU w W)=>al5 v p W (h.mono hW) hv);obtain ⟨vn,va,vf,al,rfl,-⟩:=h;generalize Ib p=z at *;have hb:(z != 0)=true:=by simpa using hv
 clear hv;go_enter Tryz.func30,Tryz.ntmps30;go_upto_region 1 with fail;obtain ⟨W1,hW⟩:∃ W:World,W=(w.alloc (.cells #[vn,va,vf] 26)).alloc (.cells #[.int .i64 0,.int .i64 0] 39):=⟨_,rfl⟩;have X2:AO W1 w.heap.size 26 #[vn,va,vf]:=by rw [hW];exact (AO.made rfl _ _).alloc _
 have X4:AO W1 (w.heap.size+1) 39 #[.int .i64 0,.int .i64 0]:=by rw [hW];exact AO.made Ak _ _
 have HB1:=AA (show AU w W1 by rw [hW];exact bA (bA (bR w) _) _);have D8:=AA X4;rw [<- hW];clear hW X4;obtain ⟨BU,BX,Bg,CB,-,-,-⟩:=X2.Az;go_wp2_with fail;refine (HC.out _ HB1.out).mono ?_;rintro e w1 ⟨rfl,hb1⟩;have HB2:=AA (bT HB1.out hb1);have X4:=D8.out.keep hb1;have DI:=AA X4;clear hb1 HC X2 BU BX Bg CB;obtain ⟨BZ,Bl,CQ,EG,FW⟩:=X4.BQ;go_wp2_with fail;refine L9 (t:=39) (g:=w.heap.size+1) (cs:=#[.int .i64 0,.int .i64 0]) rfl Xv rfl rfl (AO.QF DI.out) ⟨rfl,bS (p:=⟨w.heap.size+1,1,none⟩) (bS (p:=⟨w.heap.size+1,0,none⟩) HB2.out Ak _) Ak _⟩
theorem amk (v:Value) (p:Pl) (fc:Int) (w:World) (h:Ci w v p) (hv:Ib p=0):Calls Tryz.prog 30 #[v,.int .i64 fc] w fun e w'=>e=.returned (pO (lD p fc))/\AU w w':=by
 obtain ⟨hvv,hfb⟩:=aaf hv;have hf:=aBx.1 hfb;have Hix:=AA (ay7 hf fc);have HC:=AA (fun W (hW:AU w W)=>aCv v p W (h.mono hW) hv);have zI:=AA h;have Rh:=AA hvv;have hol:(BP p).length<=512:=EH (OA _ _) hvv.U5;obtain ⟨q,hq⟩:=BN (lD p fc);rw [hq];have HQ:=AA hq;obtain ⟨_,_,_,al,rfl,-,⟨An,cn,rfl,-⟩,⟨⟨Aa,ca,rfl,-⟩,-⟩,⟨Af,cf,rfl,-⟩⟩:=h;obtain ⟨V,hV⟩:=BR (.agg #[.slice An p.nodes.length cn,.slice Aa al.length ca,.slice Af p.faces.length cf]:Value);rw [<- hV] at zI;have HVe:=AA hV;generalize p.nodes.length=nn at *;generalize al.length=na at *;generalize p.faces.length=nf at *;clear hq hV hvv hfb hv hf;go_enter Tryz.func30,Tryz.ntmps30;go_upto_region 1 with fail;obtain ⟨W1,hW⟩:∃ W:World,W=(w.alloc (.cells #[.slice An nn cn,.slice Aa na ca,.slice Af nf cf] 26)).alloc (.cells #[.int .i64 0,.int .i64 0] 39):=⟨_,rfl⟩;have X2:AO W1 w.heap.size 26 #[.slice An nn cn,.slice Aa na ca,.slice Af nf cf]:=by rw [hW];exact (AO.made rfl _ _).alloc _
 have X4:AO W1 (w.heap.size+1) 39 #[.int .i64 0,.int .i64 0]:=by rw [hW];exact AO.made Ak _ _
 have HB1:=AA (show AU w W1 by rw [hW];exact bA (bA (bR w) _) _);rw [<- hW];clear hW;obtain ⟨g4,h4⟩:∃ g,w.heap.size+1=g:=⟨_,rfl⟩;have hg4:w.heap.size<=g4:=by omega
 rw [h4] at X4 ⊢;obtain ⟨g2,h2⟩:∃ g,w.heap.size=g:=⟨_,rfl⟩;rw [h2] at X2 ⊢;have CG:=AA X2;have D8:=AA X4;have n24:g2≠g4:=by omega
 have n42:g4≠g2:=by omega
 clear h4 h2 X4;obtain ⟨BU,BX,Bg,CB,-,-,-⟩:=X2.Az;go_wp2_with fail;refine (HC.out _ HB1.out).mono ?_;rintro e w1 ⟨A,c,L,A',c',gm,f,rfl,hb1,Si,hfi,hdv,htw,hpm,hgm,-⟩;have HB2:=AA (bT HB1.out hb1);have hll:L.length=(BP p).length+1:=hdv.len;rw [hll] at hfi;have HIx:=AA (fun W (hW:AU w1 W)=>ais _ _ fc W (hfi.mono hW));have aml:=AA (CG.out.keep hb1);have amm:=AA (D8.out.keep hb1);have HA:=AA Si;have HD:=AA hdv;have KA:=AA hpm;have HL:=AA hll;rw [<- hll] at HIx;clear hb1 HC X2 BU BX Bg CB CG D8 HB1 Si hfi hdv htw hpm hgm hll;go_wp2_with fail;refine (HIx.out _ (bR w1)).mono ?_;rintro e w2 ⟨rfl,hb2⟩;have HB3:=AA (bT HB2.out hb2);have amn:=AA (aml.out.keep hb2);have abD:=AA (amm.out.keep hb2);have HA2:=AA (HA.out.mono hb2);have amo:=AA (KA.out.keep hb2);rw [HL.out];clear hb2 HIx aml amm HA KA HB2;have hix:=Hix.out;clear Hix;rcases hix with ⟨i,hi,hz,aA7⟩ | ⟨hz,aA7⟩
 case inr =>
  have hq:=HQ.out;unfold lD at hq;rw [aA7] at hq;have ZG:=AA (show q=none from hq.symm);generalize ZV _ fc=z at *;have X4:=abD.out;clear hq HQ aA7;obtain ⟨BZ,Bl,CQ,EG,FW⟩:=X4.BQ;go_wp2_with fail;refine L9 (t:=39) (g:=g4) (cs:=#[.int .i64 0,.int .i64 0]) rfl Xv rfl rfl (AO.QF abD.out) ⟨by rw [ZG.out];rfl,bS (p:=⟨g4,1,none⟩) (bS (p:=⟨g4,0,none⟩) HB3.out hg4 _) hg4 _⟩
 case inl =>
  rw [hz];have afY:=AA aA7;have kz:¬ (i:Int)+1<1:=by omega
  clear hz aA7;go_upto_region 7 with fail;have rH:i+1<L.length:=by rw [HL.out];omega
  have hX:(BP p)[i]∈BP p:=BO hi;obtain ⟨X,hXe⟩:=BN ((BP p)[i]);have hout:=HD.out.kU rH AB;have hcy:=HD.out.aac rH;have hkey:KO (BP p) (i+1)=some X:=by rw [Tn AB AB];simp only [gu];rw [hXe]
  unfold J7 at hcy;rw [hkey] at hcy;have hal:L[i+1].DC=aN p (some X):=by rw [HD.out.DC (i+1) rH,hkey];rfl
  simp only [gu] at hout;rw [hXe] at hout hX afY;have hmem:=BO rH;have HR:=AA (fun W (hW:AU w2 W)=>(HA2.out.mono hW).sl);have HRo:=AA (fun W (hW:AU w2 W)=>(HA2.out.mono hW).out _ hmem);have RX:=AA (fun W (hW:AU w2 W)=>(HA2.out.mono hW).inn _ hmem);have Pv:=AA (fun W (hW:AU w2 W)=>(HA2.out.mono hW).Ja _ hmem);have GN:=AA (fun W (hW:AU w2 W)=>(HA2.out.mono hW).DC _ hmem);have ay8:(DV p X).length<=33280:=by
   have h1:=Rh.out.alT (b:=some X) (I7 _ (Gh hX));have h2:=alP (DV p) (l:=GR p (some X)) (a:=X) Eu;unfold Hy at h1;omega
  have hdd:=(Rh.out.Gq (Ku.1 hX).1).2;have SG:lD p fc=aaB p (some X) (P8 (Ky (DV p X))).y0 (P8 (Ky (DV p X))).y1:=by unfold lD;rw [afY.out]
  rw [HQ.out] at SG;have hne:Ky (DV p X)≠[]:=by
   have hh:=Rh.out.akq (Ku.1 hX).1;obtain ⟨a,ha,-,hp⟩:=Rh.out.TY (hdd _ hh);have hl:=Ey p a;have hpt:(AV p a).getD 0 AY∈Ky (DV p X):=(Rh.out.am8 hdd _).2 (Gf.2 ⟨_,hh,(ael _ _ _).2 (by
    rw [hp,Fj,Dh (show 0<(AV p a).length by omega)];exact BO _)⟩)
   intro e0;rw [e0] at hpt
   cases hpt
  have hbx:=awC hne;have O6:∀ u∈Ky (DV p X),C9 u=true:=fun u hu=>by
   have hu:=(Rh.out.am8 hdd u).1 hu;obtain ⟨d,hd,hu⟩:=Gf.1 hu;rw [ael] at hu;obtain ⟨a,ha,-,hp⟩:=Rh.out.TY (hdd _ hd);rw [hp] at hu;exact Rh.out.adF ha hu
  have hby:(-2097152<=(P8 (Ky (DV p X))).y0/\(P8 (Ky (DV p X))).y0<=2097152)/\(-2097152<=(P8 (Ky (DV p X))).y1/\(P8 (Ky (DV p X))).y1<=2097152):=by
   obtain ⟨u,hu,e⟩:=hbx.y0;obtain ⟨u',hu',e'⟩:=hbx.y1;have n1:=O6 u hu;have n2:=O6 u' hu';rw [Qr] at n1 n2;omega
  have hel:0<(Ky (DV p X)).length:=iD.2 hne;obtain ⟨E,hE⟩:=BN (Ky (DV p X));rw [hE] at SG hby hel;obtain ⟨bx,afZ⟩:=BN (P8 E);rw [afZ] at SG hby;have OX:=AA SG;have HE:=AA hE;have LG:=AA afZ;have ku:=AA (fun W (hW:AU w2 W) y=>ay0 V p W ((zI.out.mono HB3.out).mono hW) Rh.out gm f (amo.out.keep hW) L[i+1] X hX (HRo.out W hW) (RX.out W hW) (Pv.out W hW) (GN.out W hW) hcy hal y);have WG:=AA (fun W B g k1 k2 hB h0 hw=>ay5 w2 gm p f amo.out Rh.out (BK L[i+1].ov) L[i+1].out (HRo.out w2 (bR w2)) (by rw [hout];exact hdd) B g (by rw [hout];omega) k1 k2 W hB (.slice none 0 0) h0 hw);rw [hout] at WG;have hrow:=HA2.out.sl;obtain ⟨A2,c2,he,-,-,hRr⟩:=hrow;injection he with q1 q2 q3;subst q1 q3;clear q2;obtain ⟨bl,ol,hAe,hlb,c0,c1,rJ,c3⟩:=hRr.ad rH;generalize L[i+1]=x at *;obtain ⟨tw,out,⟨oa,on,oc⟩,inn,⟨ia,II,ic⟩,DC,⟨aa,an,ac⟩⟩:=x;unfold BK at c1 rJ c3 ku WG;simp only at c0 c1 rJ c3 ku WG;subst hAe;have kl:(i:Int)+1<((BP p).length:Int)+1:=by omega
  have k0:0<=(i:Int)+1:=by omega
  obtain ⟨nO,hnO⟩:=BN ((BP p).length);rw [hnO] at kl ⊢;clear hXe hout hcy hkey hal hmem ay8 hdd SG hne hbx O6 hE afZ hnO hRr HL afY HQ HD rH;go_upto_region 8 with fail;obtain ⟨W3,hW⟩:∃ W:World,W=w2.alloc (.cells #[.slice none 0 0] 46):=⟨_,rfl⟩;have LH:AO W3 w2.heap.size 46 #[.slice none 0 0]:=by rw [hW];exact AO.made rfl _ _
  have hA:AU w2 W3:=by rw [hW];exact bA (bR w2) _
  have Jq:=AA hA;have ZK:=AA (show ZT W3 W3.heap.size w2.heap.size [] (.slice none 0 0) from ⟨LH,Own.nil _ _ _ _ _⟩);have d1:=Eh hA c1;have hl3:w2.heap.size<=W3.heap.size:=hA.size;rw [<- hW];clear hW hA LH;obtain ⟨g11,h11⟩:∃ g,w2.heap.size=g:=⟨_,rfl⟩;have ab6:w2.heap.size<=g11:=by omega
  rw [h11] at ZK ⊢;clear h11;go_wp2_with fail;refine (WG.out W3 W3.heap.size g11 hl3 ab6 (Dc _) ZK.out Jq.out).mono ?_;rintro e w4 ⟨rfl,ay9⟩;obtain ⟨⟨vp,hpb⟩,-,hb4⟩:=ay9;rw [HE.out] at hpb;obtain ⟨Ap,cp,hvp,-⟩:=hpb.own.sl;subst hvp;have LH:=hpb.box;have hrb:=fun W (hW:AU w4 W)=>ay1 _ E W (Sl.mono hpb.own.sl hW) hel;rw [LG.out] at hrb;unfold gK at hrb;have fZ:=AA hrb;have HB4:=AA hb4;clear hrb hpb hb4 WG ZK Jq d1 HE LG;obtain ⟨WZ,Wh,-⟩:=LH.Fb;go_wp2_with fail;refine (fZ.out _ (bR w4)).mono ?_;rintro e w5 ⟨rfl,hb5⟩;obtain ⟨x0,y0,x1,y1⟩:=bx;simp only at hby ⊢;have Cm:=AA (bT HB4.out hb5);clear hb5 HB4 fZ LH WZ Wh hel;go_upto_region 10 with fail;obtain ⟨W6,hW⟩:∃ W:World,W=w5.alloc (.cells #[.int .i64 x0,.int .i64 y0,.int .i64 x1,.int .i64 y1] 73):=⟨_,rfl⟩;have LQ:AO W6 w5.heap.size 73 #[.int .i64 x0,.int .i64 y0,.int .i64 x1,.int .i64 y1]:=by rw [hW];exact AO.made rfl _ _
  have hA:AU w2 W6:=by rw [hW];exact bA Cm.out _
  have GU:=AA hA;have CG:=AA (amn.out.keep hA);have D8:=AA (abD.out.keep hA);have ZL:=AA LQ;replace c0:=Eh hA c0;replace c1:=Eh hA c1;replace rJ:=Eh hA rJ;replace c3:=Eh hA c3;replace hlb:=LW hlb hA.size;obtain ⟨g12,h12⟩:∃ g,w5.heap.size=g:=⟨_,rfl⟩;rw [<- hW];rw [h12] at LQ ZL ⊢;clear hW hA amn abD h12 Cm;obtain ⟨Nz,O1,O4,O5,rM,-,-,-,-⟩:=LQ.N7;have km:IntKind.i64.wrap (y0+y1)=y0+y1:=D6 _ AB;go_upto_block 0 with fail;obtain ⟨mid,hmid⟩:=BN ((y0+y1) / 2);have hmb:(-2097153<=mid/\mid<=2097153):=by omega
  have aA8:=AA hmid;simp only [hmid];clear hmid km LQ Nz O1 O4 O5 rM;have OW:=AA c0;have dZ:=AA c1;have HC2:=AA rJ;have HC3:=AA c3;clear c0 c1 rJ c3;go_wp2_with fail;go_loopw [14,5] (fun d ok wr=>∃ D:Nat,d=.int .i64 D/\(∀ j,j<D->midD p (some X) y0 y1 mid j=none)/\ok=.bool false/\D<=4194310/\AU W6 wr) (fun d _ _=>4194312-(intOf d).toNat)
  case atStart => exact ⟨0,rfl,fun j hj=>by omega,rfl,AB,bR W6⟩
  case round =>
   obtain ⟨D,rfl,hno,rfl,hD,hbw⟩:=hrel;obtain ⟨wo,rfl⟩:=BR wr;have OQ:=AA hno;have Ep:=AA hbw;have LQ:=ZL.out.keep hbw;have k1:IntKind.i64.wrap (mid+D)=mid+D:=D6 _ AB;have k2:IntKind.i64.wrap (mid-D)=mid-D:=D6 _ AB;clear hno hbw
   try clear Nz O1 O4 O5 rM
   obtain ⟨Nz,O1,O4,O5,rM,-,-,-,-⟩:=LQ.N7;by_cases hc:mid+D<=y1\/y0<=mid-D
   ·have hDb:D<=4194308:=by omega
    go_upto_block 2 with fail
    all_goals
     clear LQ Nz O1 O4 O5 rM;go_wp2_with fail;go_loopw [72,5] (fun j ok wr=>∃ J:Nat,J<=2/\j=.int .i64 J/\(1<=J->midRow p (some X) y0 y1 (mid+D)=none)/\(2<=J->midRow p (some X) y0 y1 (mid-D)=none)/\ok=.bool false/\AU W6 wr) (fun j _ _=>2-(intOf j).toNat)
     case atStart => exact ⟨0,AB,rfl,fun h=>by omega,fun h=>by omega,rfl,Ep.out⟩
     case round =>
      obtain ⟨J,hJ,rfl,hj1,hj2,rfl,hbv⟩:=hrel;obtain ⟨wv,rfl⟩:=BR wr;have HJ1:=AA hj1;have HJ2:=AA hj2;have U4:=AA hbv;clear hj1 hj2 hbv;by_cases hlt:J<2
      ·have hyy:∃ yy,(∀ W,(Instr.index 116 (.agg #[.int .i64 (mid+D),.int .i64 (mid-D)]) (.int .i64 J)).run Tryz.prog W=.ok (.int .i64 yy) W)/\(yy=mid+D\/yy=mid-D)/\(midRow p (some X) y0 y1 yy=none->(1<=J+1->midRow p (some X) y0 y1 (mid+D)=none)/\(2<=J+1->midRow p (some X) y0 y1 (mid-D)=none))/\∀ u,midRow p (some X) y0 y1 yy=some u->midD p (some X) y0 y1 mid D=some u:=by
        have:J=0\/J=1:=by omega
        rcases this with rfl | rfl
        · exact ⟨mid+D,fun W=>(amj _ _ W).1,.inl rfl,fun h=>⟨fun _=>h,fun h=>by omega⟩,fun u hu=>by unfold midD;rw [hu];rfl⟩
        · exact ⟨mid-D,fun W=>(amj _ _ W).2,.inr rfl,fun h=>⟨fun _=>HJ1.out (Dc _),fun _=>h⟩,fun u hu=>by unfold midD;rw [HJ1.out (Dc _),hu];rfl⟩
       obtain ⟨yy,hI,hyb,hyn,hys⟩:=hyy;have aA9:=AA hyn;have HYs:=AA hys;have azK:-6291465<=yy/\yy<=6291465:=by omega
       have LQ:=ZL.out.keep U4.out;clear hyb hyn hys HJ1 HJ2
       try clear Nz O1 O4 O5 rM
       obtain ⟨Nz,O1,O4,O5,rM,-,-,-,-⟩:=LQ.N7;by_cases ho:yy<y0\/y1<yy
       ·have hr:=aA9.out (yT p (some X) ho);have HR1:=AA hr;clear hr aA9 HYs;go_wp2_with fail
        all_goals
         go_roundw
         case rel => exact ⟨J+1,AB,BJ,HR1.out.1,HR1.out.2,rfl,U4.out⟩
         case measure => exact BL
       ·have ho1:¬ yy<y0:=fun e=>ho (.inl e);have ho2:¬ y1<yy:=fun e=>ho (.inr e);have eF:=axu p (some X) ho;have hmd:=fun W (hW:AU wv W)=>ku.out W (bT GU.out (bT U4.out hW)) yy;rw [HVe.out] at hmd;unfold afW at hmd;rw [<- eF] at hmd;obtain ⟨res,hres⟩:=BN (midRow p (some X) y0 y1 yy);rw [hres] at hmd;have amq:=AA hres;have X2:=CG.out.keep U4.out;have X4:=D8.out.keep U4.out;have azL:=AA X4;have c0:=Eh U4.out OW.out;have c1:=Eh U4.out dZ.out;have c2:=Eh U4.out HC2.out;have c3:=Eh U4.out HC3.out;have hlv:=LW hlb U4.out.size;have hbl:bl≠g4:=fun e=>by
         subst e;rw [X4.cell] at c1;generalize ol+(i+1)*4+1=k at c1
         match k,c1 with
         | 0,h=>simp at h
         | 1,h=>simp at h
         | k+2,h=>simp at h
        have azM:=hbl.symm;clear eF hres ho
        try clear BU BX Bg CB
        obtain ⟨BU,BX,Bg,CB,-,-,-⟩:=X2.Az
        cases res with
        | none =>
         unfold pO at hmd;have afa:=AA hmd;have hr:=aA9.out amq.out;have HR1:=AA hr;clear hmd hr aA9 HYs;go_upto_region 18 with fail;refine UY (wv) (some g4) (.run 7 0 0 (.call 7 255 (.run 3 8 255 (.call 11 4095 (.take 12 8191 (.done)))))) fun CU QR Ae Ah hS=>?_;replace X4:=X4.drew
         iterate 7 refine Aj ?_
         refine GL (afa.out _ (bD (bR wv))) ?_;clear hS;intro CX CV hS
         try replace X4:=X4.keep CV
         iterate 3 refine Aj ?_
         refine Bj ?_;clear hS;intro K hK AQ;obtain ⟨BZ,Bl,CQ,EG,FW⟩:=X4.BQ;go_simp;refine hK.out _ _ (by first | exact gS AQ.out _ _ | (unfold JU;have Rf:World.grownBy _ _ _:=AQ.out;repeat (first | with_reducible assumption | with_reducible exact World.grownBy.refl _ _ | with_reducible refine gS ?_ _ _ | with_reducible refine gD ?_ | with_reducible refine gA ?_ _))) (fun hS=>?_);clear hK K AQ
         try simp only [pu]
         refine Aj ?_;refine Qq ?_;clear hS Ah Ae;intro hB;rw [ami X4 (i:=0) (v:=.int .i64 0) rfl,ami X4 (i:=1) (v:=.int .i64 0) rfl];have HBz:=AA (bT U4.out (bT (bD (bR wv)) CV));clear hB;go_wp2;go_roundw
         case rel => exact ⟨J+1,AB,BJ,HR1.out.1,HR1.out.2,rfl,HBz.out⟩
         case measure => exact BL
        | some u =>
         unfold pO at hmd;have afa:=AA hmd;have hq:q=some u:=by
          rw [OX.out];exact axw p (some X) (D:=D) (by rw [aA8.out];exact OQ.out) (by rw [aA8.out];exact HYs.out u amq.out)
         have ZG:=AA hq;clear hmd hq aA9 HYs;go_upto_region 18 with fail;refine UY (wv) (some g4) (.run 7 0 0 (.call 7 255 (.run 3 8 255 (.call 11 4095 (.take 12 8191 (.done)))))) fun CU QR Ae Ah hS=>?_;replace X4:=X4.drew
         iterate 7 refine Aj ?_
         refine GL (afa.out _ (bD (bR wv))) ?_;clear hS;intro CX CV hS
         try replace X4:=X4.keep CV
         iterate 3 refine Aj ?_
         refine Bj ?_;clear hS;intro K hK AQ;obtain ⟨BZ,Bl,CQ,EG,FW⟩:=X4.BQ;go_simp;refine hK.out _ _ (by first | exact gS AQ.out _ _ | (unfold JU;have Rf:World.grownBy _ _ _:=AQ.out;repeat (first | with_reducible assumption | with_reducible exact World.grownBy.refl _ _ | with_reducible refine gS ?_ _ _ | with_reducible refine gD ?_ | with_reducible refine gA ?_ _))) (fun hS=>?_);clear hK K AQ
         try simp only [pu]
         refine Aj ?_;refine Qq ?_;clear hS Ah Ae;intro hB;have HBz:=AA (bT U4.out (bT (bD (bR wv)) CV));clear hB BZ Bl CQ EG FW;have X4n:=AO.QF X4 (x0:=.int .i64 u.x) (x1:=.int .i64 u.y);obtain ⟨wz,hwz⟩:=BR ((CX.setCell ⟨g4,0,none⟩ (.int .i64 u.x)).setCell ⟨g4,1,none⟩ (.int .i64 u.y));have aBl:=AA (show AU w wz by rw [hwz];exact bS (p:=⟨g4,1,none⟩) (bS (p:=⟨g4,0,none⟩) (bT HB3.out (bT GU.out HBz.out)) hg4 _) hg4 _);rw [<- hwz] at X4n ⊢;clear hwz X4;have afb:=AA X4n;obtain ⟨BZ,Bl,CQ,EG,FW⟩:=X4n.BQ;go_wp2_with fail;refine L9 (t:=39) (g:=g4) (cs:=#[.int .i64 u.x,.int .i64 u.y]) rfl Xv rfl rfl (AO.QF afb.out) ⟨by rw [ZG.out];unfold pO;congr 1,bS (p:=⟨g4,1,none⟩) (bS (p:=⟨g4,0,none⟩) aBl.out hg4 _) hg4 _⟩
      ·obtain rfl:J=2:=by omega
       have hd:=midD p (some X) y0 y1 mid D;have hn:midD p (some X) y0 y1 mid D=none:=by unfold midD;rw [HJ1.out AB,HJ2.out AB];rfl
       have OE:=AA (show ∀ j,j<D+1->midD p (some X) y0 y1 mid j=none from fun j hj=>by
        by_cases e:j=D
        · subst e;exact hn
        · exact OQ.out j AB)
       clear hn hd;go_wp2;go_roundw
       case rel => exact ⟨D+1,BJ,OE.out,rfl,AB,U4.out⟩
       case measure => exact BL
   ·have hc1:¬ mid+D<=y1:=fun e=>hc (.inl e);have hc2:¬ y0<=mid-D:=fun e=>hc (.inr e);have hq:q=none:=by
     rw [OX.out];exact axv p (some X) (D:=D) (by rw [aA8.out];exact OQ.out) (by rw [aA8.out];omega) (by rw [aA8.out];omega)
    have ZG:=AA hq;have X4:=D8.out.keep Ep.out;have afb:=AA X4;clear hq hc
    try clear BZ Bl CQ
    try clear EG FW
    obtain ⟨BZ,Bl,CQ,EG,FW⟩:=X4.BQ;go_wp2_with fail;refine L9 (t:=39) (g:=g4) (cs:=#[.int .i64 0,.int .i64 0]) rfl Xv rfl rfl (AO.QF afb.out) ⟨by rw [ZG.out];rfl,bS (p:=⟨g4,1,none⟩) (bS (p:=⟨g4,0,none⟩) (bT HB3.out (bT GU.out Ep.out)) hg4 _) hg4 _⟩
