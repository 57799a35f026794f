import Derived.Test.YtialfdomhoojiaaGreatJ31
import Derived.Test.YtialfdomhoojiaaGreatJ30
import Derived.Test.YtialfdomhoojiaaGreatJ14
import Derived.Test.YtialfdomhoojiaaGreatJ15
import Derived.Test.YtialfdomhoojiaaGreatJ28
import Derived.Test.YtialfdomhoojiaaGreatJ17
set_option linter.unusedSimpArgs false
set_option linter.unusedVariables false
namespace Go.Proofs.YtialfdomhoojiaaGreat
open Go.RowKit
def Qe (o:Option Pt):Value:=match o with
 | none=>.tuple #[.agg #[.int .i64 0,.int .i64 0],.bool false]
 | some v=>.tuple #[.agg #[.int .i64 v.x,.int .i64 v.y],.bool true]
def abd (p:Pl) (b:Option (List Int)) (y:Int):Option Pt:=((FH (yK p b y)).2).map fun x=>⟨x,y⟩
theorem Valid.arj {p:Pl} (h:Valid p) {X:List Int} (hX:X∈aN p) {y:Int} {r:Rn} (hr:r∈yK p (some X) y):(-2097152<=r.lo/\r.lo<=2097152)/\(-2097152<=r.hi/\r.hi<=2097153):=by
 have hv:nJ (yK p (some X) y):=(V6 _ _ (Jv _).1 (Jv _).1).1;have h0:=hv.1 r hr;have n1:=h.ahm hX (y:=y) (x:=r.lo) ⟨r,hr,Int.le_refl _,h0⟩;have n2:=h.ahm hX (y:=y) (x:=r.hi-1) ⟨r,hr,by omega,by omega⟩;rw [wL] at n1 n2;simp only at n1 n2;omega
set_option maxRecDepth 100000 in
set_option maxHeartbeats 8000000 in
theorem ark (v:Value) (p:Pl) (w:World) (h:dS w v p) (hv:Valid p) (gm:Nat) (f:Int->SV) (hpm:qQ w gm p f) (x:AD) (X:List Int) (hX:X∈aN p)
  (ho:Ints w (aH x.ov) x.out) (hi:Sl w (aH x.iv) x.inn.length (x.inn.flatMap kY)) (hc:∀ c∈x.inn,Ints w (aH c.2) c.1) (ha:Ints w (aH x.av) x.bn) (hcy:(kN x).map (·.1)=jq p (some X)) (hal:x.bn=sW p (some X)) (y:Int) :
  Calls Tryz.prog 82 #[.map (some gm),v,.agg #[.int .i64 x.tw,aH x.ov,aH x.iv,aH x.av],.int .i64 y] w fun e w'=>e=.returned (Qe (abd p (some X) y))/\Below w.heap.size w w':=by
 have hb:some X∈jQ p:=List.mem_cons_of_mem _ (List.mem_map_of_mem hX);have pJ:=Lib.hid (fun W (hW:Below w.heap.size w W)=>arf v p W (h.mono hW) hv gm f (hpm.keep hW) x (some X) hb (ho.mono hW) (hi.mono hW) (fun c hc'=>(hc c hc').mono hW) (ha.mono hW) hcy hal y);have rD:=Lib.hid (fun r hr=>hv.arj hX (y:=y) (r:=r) hr);obtain ⟨R,hR⟩:∃ R,yK p (some X) y=R:=⟨_,rfl⟩;unfold abd;rw [hR] at pJ rD ⊢;clear hR hb hpm hX ho hi hc ha hcy hal hv;obtain ⟨_,_,_,al,rfl,-,⟨An,cn,rfl,-⟩,⟨⟨Aa,ca,rfl,-⟩,-⟩,⟨Af,cf,rfl,-⟩⟩:=h;obtain ⟨tw,out,⟨oa,on,oc⟩,inn,⟨ia,iT,ic⟩,bn,⟨aa,an,ac⟩⟩:=x;unfold aH at pJ ⊢;simp only at pJ ⊢;generalize p.nodes.length=nn at *;generalize al.length=na at *;generalize p.faces.length=nf at *;obtain ⟨q,hq⟩:∃ q,((FH R).2.map fun x=>(⟨x,y⟩:Pt))=q:=⟨_,rfl⟩;rw [hq];have HQ:=Lib.hid hq;clear hq;go_enter Tryz.func82,Tryz.ntmps82;go_upto_region 2 with fail;obtain ⟨W1,hW⟩:∃ W:World,W=((w.alloc (.cells #[.slice An nn cn,.slice Aa na ca,.slice Af nf cf] 26)).alloc (.cells #[.int .i64 tw,.slice oa on oc,.slice ia iT ic,.slice aa an ac] 82)).alloc (.cells #[.int .i64 0,.int .i64 0] 39):=⟨_,rfl⟩;have X5:aj W1 w.heap.size 26 #[.slice An nn cn,.slice Aa na ca,.slice Af nf cf]:=by rw [hW];exact ((aj.made rfl _ _).alloc _).alloc _
 have X6:aj W1 (w.heap.size+1) 82 #[.int .i64 tw,.slice oa on oc,.slice ia iT ic,.slice aa an ac]:=by rw [hW];exact (aj.made (by simp) _ _).alloc _
 have X8:aj W1 (w.heap.size+1+1) 39 #[.int .i64 0,.int .i64 0]:=by rw [hW];exact aj.made (by simp) _ _
 have HA:=Lib.hid (show Below w.heap.size w W1 by rw [hW];exact bA (bA (bA (bR w) _) _) _);rw [<- hW];clear hW;obtain ⟨g8,h8⟩:∃ g,w.heap.size+1+1=g:=⟨_,rfl⟩;have wu:w.heap.size<=g8:=by omega
 rw [h8] at X8 ⊢;have CG:=Lib.hid X8;clear h8 X8;obtain ⟨dF,dG,dI,jo,-,-,-⟩:=X5.bC;obtain ⟨jk,jl,jm,sK,uY,-,-,-,-⟩:=X6.nG;go_wp2_with fail;refine (pJ.out _ HA.out).mono ?_;rintro e w2 ⟨A,c,rfl,hown,hb2⟩;have HO:=Lib.hid (hown.iW HA.out.size);have HB2:=Lib.hid (bT HA.out hb2);have HX:=Lib.hid (CG.out.keep hb2);have hRl:R.length<=9223372036854775807:=by
  obtain ⟨_,_,_,h1,h2,-⟩:=hown.sl;unfold maxLen at h2;omega
 clear hown hb2 CG pJ HA X5 dF dG dI jo X6 jk jl jm sK uY;go_upto_block 0 with fail;go_wp2_with fail;go_loopw [20,10,9] (fun i m ok wr=>∃ (k:Nat) (s:Int×Option Int),k<=R.length/\i=.int .i64 k/\FH (R.take k)=s/\m=.int .i64 s.1/\ok=.bool s.2.isSome/\Own wr w.heap.size 121 2 gK (.slice A R.length c) R/\aj wr g8 39 #[.int .i64 (s.2.getD 0),.int .i64 (if s.2.isSome=true then y else 0)]/\Below w.heap.size w wr) (fun i _ _ _=>R.length-(intOf i).toNat)
 case atStart => exact ⟨0,(0,none),Nat.zero_le _,rfl,rfl,rfl,rfl,HO.out,HX.out,HB2.out⟩
 case round =>
  obtain ⟨k,s,hk,rfl,hs,rfl,rfl,hO,X8,hbw⟩:=hrel;obtain ⟨wo,rfl⟩:∃ wo:World,wo=wr:=⟨_,rfl⟩;have fM:=Lib.hid hO;have bY:=Lib.hid X8;have iD:=Lib.hid hbw;by_cases hlt:k<R.length
  ·obtain ⟨A',c',he,-,-,mW⟩:=hO.sl;injection he with q1 q2 q3;subst q1 q3;clear q2;obtain ⟨b',o',rfl,hlb,c0,c1⟩:=mW.rn hlt;have hst:=aq6 hlt;rw [hs] at hst;have hbd:=rD.out _ (List.getElem_mem hlt);generalize R[k]=r at *;obtain ⟨lo,hi⟩:=r;obtain ⟨m0,o⟩:=s;simp only at c0 c1 hbd;unfold Zt at hst;simp only at hst;have dQ:=Lib.hid hst;have k1:IntKind.i64.wrap (hi-lo)=hi-lo:=IntWalk.i64_in _ (by omega);have k2:IntKind.i64.wrap (lo+hi)=lo+hi:=IntWalk.i64_in _ (by omega);have k3:IntKind.i64.wrap (lo+hi-1)=lo+hi-1:=IntWalk.i64_in _ (by omega);clear hs hst hO mW HO HX HB2 hbw;by_cases hgt:m0<hi-lo
   ·have hst:=dQ.out;rw [if_pos hgt] at hst;have OE:=Lib.hid hst;have qm:=X8;clear hst dQ
    try clear qm
    obtain ⟨qj,ql,qm,Vr,Vs⟩:=X8.bI;go_wp2_with fail;have hne:=Own.dM fM.out bY.out (by decide);go_roundw
    case measure => simp [intOf];omega
    case rel => exact ⟨k+1,_,by omega,by go_num,OE.out,rfl,rfl,((fM.out.far (p:=⟨g8,0,none⟩) hne _).far (p:=⟨g8,1,none⟩) hne _).alloc _,(aj.wJ bY.out).alloc _,bA (bS (p:=⟨g8,1,none⟩) (bS (p:=⟨g8,0,none⟩) iD.out wu _) wu _) _⟩
   ·have hst:=dQ.out;rw [if_neg hgt] at hst;have OE:=Lib.hid hst;clear hst dQ;go_wp2_with fail;go_roundw
    case measure => simp [intOf];omega
    case rel => exact ⟨k+1,_,by omega,by go_num,OE.out,rfl,rfl,fM.out.alloc _,bY.out.alloc _,bA iD.out _⟩
  ·obtain rfl:k=R.length:=by omega
   rw [List.take_length] at hs;have hq:=HQ.out;rw [hs] at hq;have uG:=Lib.hid hq;clear hs hq HQ hO;obtain ⟨m0,o⟩:=s;simp only at X8 uG bY;have hl8:=X8.lt
   cases o with
   | none =>
    have HR:=Lib.hid (show q=none from uG.out.symm);simp only [Option.getD_none,Option.isSome_none,Bool.false_eq_true,if_false] at X8 bY
    try clear qj
    try clear ql
    try clear qm
    try clear Vr
    try clear Vs
    obtain ⟨qj,ql,qm,Vr,Vs⟩:=X8.bI;go_wp2_with fail;refine su (t:=39) (g:=g8) (cs:=#[.int .i64 0,.int .i64 0]) rfl Gh rfl rfl (aj.wJ bY.out) ⟨by rw [HR.out];rfl,bS (p:=⟨g8,1,none⟩) (bS (p:=⟨g8,0,none⟩) iD.out wu _) wu _⟩
   | some z =>
    have HR:=Lib.hid (show q=some ⟨z,y⟩ from uG.out.symm);simp only [Option.getD_some,Option.isSome_some,if_true] at X8 bY
    try clear qj
    try clear ql
    try clear qm
    try clear Vr
    try clear Vs
    obtain ⟨qj,ql,qm,Vr,Vs⟩:=X8.bI;go_wp2_with fail;refine su (t:=39) (g:=g8) (cs:=#[.int .i64 z,.int .i64 y]) rfl Gh rfl rfl (aj.wJ bY.out) ⟨by rw [HR.out];rfl,bS (p:=⟨g8,1,none⟩) (bS (p:=⟨g8,0,none⟩) iD.out wu _) wu _⟩
def FZ (x:Bx):Array Value:=#[.int .i64 x.x0,.int .i64 x.y0,.int .i64 x.x1,.int .i64 x.y1]
set_option maxRecDepth 100000 in
set_option maxHeartbeats 4000000 in
theorem arl (v:Value) (l:List Pt) (w:World) (h:gG w v l) (hne:0<l.length):Calls Tryz.prog 81 #[v] w fun e w'=>e=.returned (.agg (FZ (qJ l)))/\Below w.heap.size w w':=by
 obtain ⟨A,c,rfl,hn1,hn2,hR⟩:=h;unfold maxLen at hn2;have HR:=Lib.hid hR;obtain ⟨b,o,rfl,hlb,c0,c1⟩:=hR.pt hne;simp only [Nat.zero_mul,Nat.add_zero] at c0 c1;obtain ⟨R,hRr⟩:∃ R,qJ l=R:=⟨_,rfl⟩;rw [hRr];have hR2:l.foldl qc ⟨l[0].x,l[0].y,l[0].x,l[0].y⟩=R:=by
  rw [<- hRr]
  cases l with
  | nil=>cases hne
  | cons a l=>rfl
 obtain ⟨p0,hp0⟩:∃ p0,l[0]=p0:=⟨_,rfl⟩;rw [hp0] at c0 c1 hR2;have uF:=Lib.hid hR2;have hk0:(0:Int)<l.length:=by omega
 have hkn:¬ l=[]:=fun e=>by rw [e] at hne;cases hne
 have hkz:((l.length:Int) == 0)=false:=by rw [beq_eq_false_iff_ne];omega
 have atP:(l.length == 0)=false:=by rw [beq_eq_false_iff_ne];omega
 clear hR hRr hR2 hp0;go_enter Tryz.func81,Tryz.ntmps81;go_upto_region 1 with fail;obtain ⟨W1,hW⟩:∃ W:World,W=w.alloc (.cells #[.int .i64 0,.int .i64 0,.int .i64 0,.int .i64 0] 73):=⟨_,rfl⟩;obtain ⟨g2,hg2⟩:∃ g2,w.heap.size=g2:=⟨_,rfl⟩;have X2:aj W1 g2 73 #[.int .i64 0,.int .i64 0,.int .i64 0,.int .i64 0]:=by rw [hW];exact aj.made hg2.symm _ _
 have hA:Below w.heap.size w W1:=by rw [hW];exact bA (bR w) _
 have HB1:=Lib.hid hA;rw [<- hW];replace c0:=fG hA c0;replace c1:=fG hA c1;have adN:b<W1.heap.size:=by have:=hA.size;omega
 have hbg:some b≠some g2:=fun e=>by have:=Option.some.inj e;omega
 have bY:=Lib.hid X2;have hgw:w.heap.size<=g2:=by omega
 clear hW hA
 try rw [hg2]
 obtain ⟨gI,gJ,iq,iZ,Um,AV,GU,Lh,abe⟩:=X2.nG;go_upto_region 3 with fail;refine bZ (ji W1 (some g2)) (.run 17 0 0 (.call 17 262143 (.done))) (by kernel_rfl) (gD (gR _ _)) (by kernel_rfl) (by kernel_rfl) (Nat.le_of_ble_eq_true (by kernel_rfl)) ?_;intro cO QR ak aC hS
 iterate 17
  apply jI;exact ak;exact rfl;exact hS;exact rfl
  · intro _ hqc;go_simp;try rfl
  try simp only [pu]
 refine aT (i:=17) (aG ak rfl) (fun K hK=>?_);have aA:=Lib.hid hS;clear hS;refine aO (aV rfl) ?_;go_simp;refine hK.out _ _ (by first | exact gS aA.out _ _ | (unfold ji;have uH:World.grownBy _ _ _:=aA.out;repeat (first | with_reducible assumption | with_reducible exact World.grownBy.refl _ _ | with_reducible refine gS ?_ _ _ | with_reducible refine gD ?_ | with_reducible refine gA ?_ _))) (fun hS=>?_);clear hK K aA
 try simp only [pu]
 refine bM ?_;refine aC.down _ _ ?_;have hB:W1.grownBy _ (some g2):=hS;clear hS aC ak;skip;have rD:=Lib.hid (show Below g2 W1 W1.drew from Below.drew (Below.refl g2 W1));clear hB c0 c1 gI gJ iq iZ Um AV GU Lh abe;go_wp2_with fail;go_loopw [28] (fun u wr=>∃ (k:Nat) (x:Bx),k<=l.length/\u=.int .i64 k/\x=(l.take k).foldl qc ⟨p0.x,p0.y,p0.x,p0.y⟩/\aj wr g2 73 #[.int .i64 x.x0,.int .i64 x.y0,.int .i64 x.x1,.int .i64 x.y1]/\Below g2 W1 wr) (fun u _=>l.length-(intOf u).toNat)
 case atStart => exact ⟨0,⟨p0.x,p0.y,p0.x,p0.y⟩,Nat.zero_le _,rfl,rfl,aj.Gf bY.out.drew,(((rD.out.setCell (p:=⟨g2,0,none⟩) (Nat.le_refl _) _).setCell (p:=⟨g2,1,none⟩) (Nat.le_refl _) _).setCell (p:=⟨g2,2,none⟩) (Nat.le_refl _) _).setCell (p:=⟨g2,3,none⟩) (Nat.le_refl _) _⟩
 case round =>
  obtain ⟨k,x,hk,rfl,hx,X3,hb⟩:=hrel;obtain ⟨wo,rfl⟩:∃ wo:World,wo=wr:=⟨_,rfl⟩;have Hb:=Lib.hid hb;have HX:=Lib.hid hx;have Qg:=Lib.hid X3;have l3:=X3.lt;have iD:=Lib.hid (show Below w.heap.size w wo from HB1.out.trans (hb.mono hgw));clear hb hx;by_cases hlt:k<l.length
  ·obtain ⟨b',o',hA',Gu,c0,c1⟩:=(HR.out.mono iD.out).pt hlt;injection hA' with hA';injection hA' with y1 y2 _;subst y1 y2;have hst:(l.take (k+1)).foldl qc ⟨p0.x,p0.y,p0.x,p0.y⟩=qc x l[k]:=by
    rw [List.take_succ_eq_append_getElem hlt,List.foldl_append,<- HX.out];rfl
   unfold qc at hst;have dQ:=Lib.hid hst;generalize l[k]=p at *;clear hst;go_upto_region 7 with fail;obtain ⟨W2,hW2⟩:∃ W:World,W=wo.alloc (.cells #[.int .i64 p.x,.int .i64 p.y] 39):=⟨_,rfl⟩;have hA1:Below wo.heap.size wo W2:=by rw [hW2];exact bA (bR wo) _
   obtain ⟨g5,hg5⟩:∃ g5,wo.heap.size=g5:=⟨_,rfl⟩;have X5:aj W2 g5 39 #[.int .i64 p.x,.int .i64 p.y]:=by rw [hW2];exact aj.made hg5.symm _ _
   have HB2:=Lib.hid (show Below g2 W1 W2 by rw [hW2];exact Hb.out.alloc (by have:=Hb.out.size;have:=bY.out.lt;omega) _);have n5:¬ g5=g2:=by omega
   have dn:=Lib.hid (Qg.out.keep hA1);have bK:=Lib.hid X5;rw [<- hW2]
   try rw [hg5]
   clear hW2 hA1 hg5 X3 c0 c1 Qg Hb iD;have X4:=dn.out;obtain ⟨cZ,dh,eF,jw,yc,eG,iY,lu,yg⟩:=X4.nG;obtain ⟨dF,dG,dI,-,-⟩:=X5.bI;go_cut [33] (fun u wx=>aj wx g2 73 #[.int .i64 (min x.x0 p.x),.int .i64 x.y0,.int .i64 (max x.x1 p.x),.int .i64 x.y1]/\aj wx g5 39 #[.int .i64 p.x,.int .i64 p.y]/\Below g2 W1 wx)
   case first =>
    obtain ⟨m1,hm1⟩:∃ m1:Int,m1=if p.x<x.x0 then p.x else x.x0:=⟨_,rfl⟩;obtain ⟨m2,hm2⟩:∃ m2:Int,m2=if x.x1<p.x then p.x else x.x1:=⟨_,rfl⟩;have hfin:aj (((W2.setCell ⟨g2,0,none⟩ (.int .i64 m1)).setCell ⟨g2,2,none⟩ (.int .i64 m2))).drew g2 73 #[.int .i64 (min x.x0 p.x),.int .i64 x.y0,.int .i64 (max x.x1 p.x),.int .i64 x.y1]/\aj (((W2.setCell ⟨g2,0,none⟩ (.int .i64 m1)).setCell ⟨g2,2,none⟩ (.int .i64 m2))).drew g5 39 #[.int .i64 p.x,.int .i64 p.y]/\Below g2 W1 (((W2.setCell ⟨g2,0,none⟩ (.int .i64 m1)).setCell ⟨g2,2,none⟩ (.int .i64 m2))).drew:=by
     refine ⟨?_,((bK.out.far (p:=⟨g2,0,none⟩) n5 _).far (p:=⟨g2,2,none⟩) n5 _).drew,((HB2.out.setCell (p:=⟨g2,0,none⟩) (Nat.le_refl _) _).setCell (p:=⟨g2,2,none⟩) (Nat.le_refl _) _).drew⟩;have h:=aj.fF (aj.fF dn.out 0 (.int .i64 m1)) 2 (.int .i64 m2);have e1:min x.x0 p.x=m1:=by rw [hm1];split<;>omega
     have e2:max x.x1 p.x=m2:=by rw [hm2];split<;>omega
     rw [e1,e2];refine aj.drew ?_;simpa using h
    have DX:=Lib.hid hfin;have Qh:=Lib.hid hm1;have Qi:=Lib.hid hm2;have Qj:=Lib.hid (show min x.x0 p.x=m1 by rw [hm1];split<;>omega);have Qk:=Lib.hid (show max x.x1 p.x=m2 by rw [hm2];split<;>omega);clear hfin hm1 hm2;go_upto_region 7 with fail;refine bZ (ji W2 (some g2)) (.take 0 1 (.take 2 5 (.take 3 13 (.take 5 45 (.take 7 173 (.take 8 429 (.two 1 431 (.take 4 447 (.call 6 511 (.take 9 1023 (.take 10 2047 (.call 11 4095 (.take 12 8191 (.call 13 16383 (.done)))))))) 6 493 (.take 9 1005 (.call 1 1007 (.take 4 1023 (.take 10 2047 (.call 11 4095 (.take 12 8191 (.call 13 16383 (.done))))))))))))))) (by kernel_rfl) (gD (gR _ _)) (by kernel_rfl) (by kernel_rfl) (Nat.le_of_ble_eq_true (by kernel_rfl)) ?_;intro cO QR ak aC hS
    iterate 6
     apply jI;exact ak;exact rfl;exact hS;exact rfl
     · intro _ hqc;go_simp;try rfl
     try simp only [pu]
    refine Ae (i:=1) (j:=6) (aG ak rfl) (aG ak rfl) (fun K hK=>?_) (fun K hK=>?_)
    ·have aA:=Lib.hid hS;clear hS;refine aO (aV rfl) ?_;go_simp;refine hK.out _ _ aA.out (fun hS=>?_);clear hK K aA
     try simp only [pu]
     apply jI;exact ak;exact rfl;exact hS;exact rfl
     · intro _ hqc;go_simp;try rfl
     try simp only [pu]
     refine aT (i:=6) (aG ak rfl) (fun K hK=>?_);have aA:=Lib.hid hS;clear hS;refine aO (aV rfl) ?_;go_simp;refine hK.out _ _ aA.out (fun hS=>?_);clear hK K aA
     try simp only [pu]
     iterate 2
      apply jI;exact ak;exact rfl;exact hS;exact rfl
      · intro _ hqc;go_simp;try rfl
      try simp only [pu]
     refine aT (i:=11) (aG ak rfl) (fun K hK=>?_);have aA:=Lib.hid hS;clear hS;refine aO (aV rfl) ?_;go_simp;refine hK.out _ _ (by first | exact gS aA.out _ _ | (unfold ji;have uH:World.grownBy _ _ _:=aA.out;repeat (first | with_reducible assumption | with_reducible exact World.grownBy.refl _ _ | with_reducible refine gS ?_ _ _ | with_reducible refine gD ?_ | with_reducible refine gA ?_ _))) (fun hS=>?_);clear hK K aA
     try simp only [pu]
     apply jI;exact ak;exact rfl;exact hS;exact rfl
     · intro _ hqc;go_simp;try rfl
     try simp only [pu]
     refine aT (i:=13) (aG ak rfl) (fun K hK=>?_);have aA:=Lib.hid hS;clear hS;refine aO (aV rfl) ?_;go_simp;refine hK.out _ _ (by first | exact gS aA.out _ _ | (unfold ji;have uH:World.grownBy _ _ _:=aA.out;repeat (first | with_reducible assumption | with_reducible exact World.grownBy.refl _ _ | with_reducible refine gS ?_ _ _ | with_reducible refine gD ?_ | with_reducible refine gA ?_ _))) (fun hS=>?_);clear hK K aA
     try simp only [pu]
     refine bM ?_;refine aC.down _ _ ?_;have hB:W2.grownBy _ (some g2):=hS;clear hS aC ak
     first | rw [<- Qh.out,<- Qi.out] | rw [Qj.out,Qk.out]
     go_wp2_with fail;go_meet
     case rel => exact DX.out
    ·have aA:=Lib.hid hS;clear hS;refine aO (aV rfl) ?_;go_simp;refine hK.out _ _ aA.out (fun hS=>?_);clear hK K aA
     try simp only [pu]
     apply jI;exact ak;exact rfl;exact hS;exact rfl
     · intro _ hqc;go_simp;try rfl
     try simp only [pu]
     refine aT (i:=1) (aG ak rfl) (fun K hK=>?_);have aA:=Lib.hid hS;clear hS;refine aO (aV rfl) ?_;go_simp;refine hK.out _ _ aA.out (fun hS=>?_);clear hK K aA
     try simp only [pu]
     iterate 2
      apply jI;exact ak;exact rfl;exact hS;exact rfl
      · intro _ hqc;go_simp;try rfl
      try simp only [pu]
     refine aT (i:=11) (aG ak rfl) (fun K hK=>?_);have aA:=Lib.hid hS;clear hS;refine aO (aV rfl) ?_;go_simp;refine hK.out _ _ (by first | exact gS aA.out _ _ | (unfold ji;have uH:World.grownBy _ _ _:=aA.out;repeat (first | with_reducible assumption | with_reducible exact World.grownBy.refl _ _ | with_reducible refine gS ?_ _ _ | with_reducible refine gD ?_ | with_reducible refine gA ?_ _))) (fun hS=>?_);clear hK K aA
     try simp only [pu]
     apply jI;exact ak;exact rfl;exact hS;exact rfl
     · intro _ hqc;go_simp;try rfl
     try simp only [pu]
     refine aT (i:=13) (aG ak rfl) (fun K hK=>?_);have aA:=Lib.hid hS;clear hS;refine aO (aV rfl) ?_;go_simp;refine hK.out _ _ (by first | exact gS aA.out _ _ | (unfold ji;have uH:World.grownBy _ _ _:=aA.out;repeat (first | with_reducible assumption | with_reducible exact World.grownBy.refl _ _ | with_reducible refine gS ?_ _ _ | with_reducible refine gD ?_ | with_reducible refine gA ?_ _))) (fun hS=>?_);clear hK K aA
     try simp only [pu]
     refine bM ?_;refine aC.down _ _ ?_;have hB:W2.grownBy _ (some g2):=hS;clear hS aC ak
     first | rw [<- Qh.out,<- Qi.out] | rw [Qj.out,Qk.out]
     go_wp2_with fail;go_meet
     case rel => exact DX.out
   case rest =>
   obtain ⟨hx4,hx5,hb4⟩:=hcut;obtain ⟨wv,rfl⟩:∃ wv:World,wv=wc:=⟨_,rfl⟩;have jL:=Lib.hid hx4;have kF:=Lib.hid hx5;have HB4:=Lib.hid hb4;clear hx4 hx5 hb4 X4 cZ dh eF jw yc eG iY lu yg X5 dF dG dI dn bK HB2;have X6:=jL.out;have X7:=kF.out;obtain ⟨jk,jl,jm,sK,uY,TD,TG,aqj,atQ⟩:=X6.nG;obtain ⟨jJ,jK,qY,-,-⟩:=X7.bI;obtain ⟨m1,hm1⟩:∃ m1:Int,m1=if p.y<x.y0 then p.y else x.y0:=⟨_,rfl⟩;obtain ⟨m2,hm2⟩:∃ m2:Int,m2=if x.y1<p.y then p.y else x.y1:=⟨_,rfl⟩;have hfin:aj (((wv.setCell ⟨g2,1,none⟩ (.int .i64 m1)).setCell ⟨g2,3,none⟩ (.int .i64 m2))).drew g2 73 #[.int .i64 (min x.x0 p.x),.int .i64 (min x.y0 p.y),.int .i64 (max x.x1 p.x),.int .i64 (max x.y1 p.y)]/\Below g2 W1 (((wv.setCell ⟨g2,1,none⟩ (.int .i64 m1)).setCell ⟨g2,3,none⟩ (.int .i64 m2))).drew:=by
    refine ⟨?_,((HB4.out.setCell (p:=⟨g2,1,none⟩) (Nat.le_refl _) _).setCell (p:=⟨g2,3,none⟩) (Nat.le_refl _) _).drew⟩;have h:=aj.fF (aj.fF jL.out 1 (.int .i64 m1)) 3 (.int .i64 m2);have e1:min x.y0 p.y=m1:=by rw [hm1];split<;>omega
    have e2:max x.y1 p.y=m2:=by rw [hm2];split<;>omega
    rw [e1,e2];refine aj.drew ?_;simpa using h
   have DX:=Lib.hid hfin;have Qh:=Lib.hid hm1;have Qi:=Lib.hid hm2;have Qj:=Lib.hid (show min x.y0 p.y=m1 by rw [hm1];split<;>omega);have Qk:=Lib.hid (show max x.y1 p.y=m2 by rw [hm2];split<;>omega);clear hfin hm1 hm2;go_upto_region 8 with fail;refine bZ (ji wv (some g2)) (.take 0 1 (.take 2 5 (.take 3 13 (.take 5 45 (.take 7 173 (.take 8 429 (.two 1 431 (.take 4 447 (.call 6 511 (.take 9 1023 (.take 10 2047 (.call 11 4095 (.take 12 8191 (.call 13 16383 (.done)))))))) 6 493 (.take 9 1005 (.call 1 1007 (.take 4 1023 (.take 10 2047 (.call 11 4095 (.take 12 8191 (.call 13 16383 (.done))))))))))))))) (by kernel_rfl) (gD (gR _ _)) (by kernel_rfl) (by kernel_rfl) (Nat.le_of_ble_eq_true (by kernel_rfl)) ?_;intro cO QR ak aC hS
   iterate 6
    apply jI;exact ak;exact rfl;exact hS;exact rfl
    · intro _ hqc;go_simp;try rfl
    try simp only [pu]
   refine Ae (i:=1) (j:=6) (aG ak rfl) (aG ak rfl) (fun K hK=>?_) (fun K hK=>?_)
   ·have aA:=Lib.hid hS;clear hS;refine aO (aV rfl) ?_;go_simp;refine hK.out _ _ aA.out (fun hS=>?_);clear hK K aA
    try simp only [pu]
    apply jI;exact ak;exact rfl;exact hS;exact rfl
    · intro _ hqc;go_simp;try rfl
    try simp only [pu]
    refine aT (i:=6) (aG ak rfl) (fun K hK=>?_);have aA:=Lib.hid hS;clear hS;refine aO (aV rfl) ?_;go_simp;refine hK.out _ _ aA.out (fun hS=>?_);clear hK K aA
    try simp only [pu]
    iterate 2
     apply jI;exact ak;exact rfl;exact hS;exact rfl
     · intro _ hqc;go_simp;try rfl
     try simp only [pu]
    refine aT (i:=11) (aG ak rfl) (fun K hK=>?_);have aA:=Lib.hid hS;clear hS;refine aO (aV rfl) ?_;go_simp;refine hK.out _ _ (by first | exact gS aA.out _ _ | (unfold ji;have uH:World.grownBy _ _ _:=aA.out;repeat (first | with_reducible assumption | with_reducible exact World.grownBy.refl _ _ | with_reducible refine gS ?_ _ _ | with_reducible refine gD ?_ | with_reducible refine gA ?_ _))) (fun hS=>?_);clear hK K aA
    try simp only [pu]
    apply jI;exact ak;exact rfl;exact hS;exact rfl
    · intro _ hqc;go_simp;try rfl
    try simp only [pu]
    refine aT (i:=13) (aG ak rfl) (fun K hK=>?_);have aA:=Lib.hid hS;clear hS;refine aO (aV rfl) ?_;go_simp;refine hK.out _ _ (by first | exact gS aA.out _ _ | (unfold ji;have uH:World.grownBy _ _ _:=aA.out;repeat (first | with_reducible assumption | with_reducible exact World.grownBy.refl _ _ | with_reducible refine gS ?_ _ _ | with_reducible refine gD ?_ | with_reducible refine gA ?_ _))) (fun hS=>?_);clear hK K aA
    try simp only [pu]
    refine bM ?_;refine aC.down _ _ ?_;have hB:wv.grownBy _ (some g2):=hS;clear hS aC ak
    first | rw [<- Qh.out,<- Qi.out] | rw [Qj.out,Qk.out]
    go_wp2_with fail;go_roundw
    case rel => exact ⟨k+1,_,by omega,by go_num,dQ.out.symm,DX.out.1,DX.out.2⟩
    case measure => simp [intOf];omega
   ·have aA:=Lib.hid hS;clear hS;refine aO (aV rfl) ?_;go_simp;refine hK.out _ _ aA.out (fun hS=>?_);clear hK K aA
    try simp only [pu]
    apply jI;exact ak;exact rfl;exact hS;exact rfl
    · intro _ hqc;go_simp;try rfl
    try simp only [pu]
    refine aT (i:=1) (aG ak rfl) (fun K hK=>?_);have aA:=Lib.hid hS;clear hS;refine aO (aV rfl) ?_;go_simp;refine hK.out _ _ aA.out (fun hS=>?_);clear hK K aA
    try simp only [pu]
    iterate 2
     apply jI;exact ak;exact rfl;exact hS;exact rfl
     · intro _ hqc;go_simp;try rfl
     try simp only [pu]
    refine aT (i:=11) (aG ak rfl) (fun K hK=>?_);have aA:=Lib.hid hS;clear hS;refine aO (aV rfl) ?_;go_simp;refine hK.out _ _ (by first | exact gS aA.out _ _ | (unfold ji;have uH:World.grownBy _ _ _:=aA.out;repeat (first | with_reducible assumption | with_reducible exact World.grownBy.refl _ _ | with_reducible refine gS ?_ _ _ | with_reducible refine gD ?_ | with_reducible refine gA ?_ _))) (fun hS=>?_);clear hK K aA
    try simp only [pu]
    apply jI;exact ak;exact rfl;exact hS;exact rfl
    · intro _ hqc;go_simp;try rfl
    try simp only [pu]
    refine aT (i:=13) (aG ak rfl) (fun K hK=>?_);have aA:=Lib.hid hS;clear hS;refine aO (aV rfl) ?_;go_simp;refine hK.out _ _ (by first | exact gS aA.out _ _ | (unfold ji;have uH:World.grownBy _ _ _:=aA.out;repeat (first | with_reducible assumption | with_reducible exact World.grownBy.refl _ _ | with_reducible refine gS ?_ _ _ | with_reducible refine gD ?_ | with_reducible refine gA ?_ _))) (fun hS=>?_);clear hK K aA
    try simp only [pu]
    refine bM ?_;refine aC.down _ _ ?_;have hB:wv.grownBy _ (some g2):=hS;clear hS aC ak
    first | rw [<- Qh.out,<- Qi.out] | rw [Qj.out,Qk.out]
    go_wp2_with fail;go_roundw
    case rel => exact ⟨k+1,_,by omega,by go_num,dQ.out.symm,DX.out.1,DX.out.2⟩
    case measure => simp [intOf];omega
  ·have hxr:x=R:=by rw [HX.out,List.take_of_length_le (by omega),uF.out]
   have HXr:=Lib.hid hxr;clear hxr;obtain ⟨kU,kV,mO,Lj,Jk,Ep,Np,ahV,ahW⟩:=X3.nG;go_wp2_with fail;refine MN (g:=g2) (cs:=#[.int .i64 x.x0,.int .i64 x.y0,.int .i64 x.x1,.int .i64 x.y1]) rfl aiF rfl rfl (aj.Gf Qg.out) ⟨by rw [HXr.out];rfl,?_⟩;exact (((iD.out.setCell (p:=⟨g2,0,none⟩) hgw _).setCell (p:=⟨g2,1,none⟩) hgw _).setCell (p:=⟨g2,2,none⟩) hgw _).setCell (p:=⟨g2,3,none⟩) hgw _
structure D7 (w:World) (B g:Nat) (l:List Pt) (v:Value):Prop where
 box:aj w g 46 #[v]
 own:Own w B 39 2 iV v l
theorem D7.keep {w w':World} {B g:Nat} {l:List Pt} {v:Value} (h:D7 w B g l v) (hb:Below w.heap.size w w'):D7 w' B g l v:=⟨h.box.keep hb,h.own.keep hb⟩
set_option maxRecDepth 100000 in
set_option maxHeartbeats 1000000 in
theorem arn (a b:Pt) (B g:Nat) (l:List Pt) (v:Value) (w:World) (h:D7 w B g l v) (hBw:B<=w.heap.size) (hl:l.length<=1000000) :
  Calls Tryz.prog 80 #[aZ a,aZ b,.pointer (some ⟨g,0,none⟩)] w fun e w'=>e=.returned (.tuple #[])/\(∃ v',D7 w' B g (l++[a,b]) v')/\jR B g g w w':=by
 obtain ⟨X4,own⟩:=h;obtain ⟨A,c,rfl,-⟩:=Own.sl own;have n4:=Own.dM own X4 (by decide);have hg:=X4.lt;unfold aZ;go_enter Tryz.func80,Tryz.ntmps80;go_upto_region 1 with fail;obtain ⟨W1,hW⟩:∃ W:World,W=(w.alloc (.cells #[.int .i64 a.x,.int .i64 a.y] 39)).alloc (.cells #[.int .i64 b.x,.int .i64 b.y] 39):=⟨_,rfl⟩;have X5:aj W1 w.heap.size 39 #[.int .i64 a.x,.int .i64 a.y]:=by rw [hW];exact (aj.made rfl _ _).alloc _
 have X6:aj W1 (w.heap.size+1) 39 #[.int .i64 b.x,.int .i64 b.y]:=by rw [hW];exact aj.made (by simp) _ _
 have hA:Below w.heap.size w W1:=by rw [hW];exact bA (bA (bR w) _) _
 replace X4:=X4.keep hA;have dn:=Lib.hid X4;have HO:=Lib.hid (own.keep hA);have HA:=Lib.hid hA;have hB1:B<=W1.heap.size:=Nat.le_trans hBw hA.size;have hsh:(l++[a,b]).length=l.length+2:=by simp
 have eu:=Lib.hid hsh;have HN:=Lib.hid n4;rw [<- hW];clear hW hA own hsh n4;obtain ⟨cZ,dh,eG⟩:=X4.fB;obtain ⟨dF,dG,dI,-,-⟩:=X5.bI;obtain ⟨jk,jl,jm,-,-⟩:=X6.bI;go_wp2_with
  (at_builtin
   refine jH _ rfl (.tmp 5) (.tmp 8) _ rfl (base:=B) Jp F9 Jq rfl (Own.alloc HO.out _) rfl (l2:=[a,b]) (Sl.lit (n:=2) (aj.made rfl _ _) rfl (dW (by omega))) (by simp only [List.length_cons,List.length_nil];omega) (by simp only [List.length_cons,List.length_nil];omega) (by simp;omega) ?_;intro v3 w3 ho3 hg3 lY;obtain ⟨A3,c3,hv3,-⟩:=ho3.sl;rw [eu.out] at hv3;subst hv3;have rO:=aj.grown (dn.out.alloc _) hg3 (fun e=>HN.out e.symm);have HF:=Lib.hid (show D7 (w3.setCell ⟨g,0,none⟩ (.slice A3 (l.length+2) c3)) B g (l++[a,b]) (.slice A3 (l.length+2) c3) from ⟨rO.fF 0 _,ho3.far (p:=⟨g,0,none⟩) (Own.dM ho3 rO (by decide)) _⟩);have HK:=Lib.hid (show jR B g g W1 (w3.setCell ⟨g,0,none⟩ (.slice A3 (l.length+2) c3)) from ⟨fun w0 k1 k2 k3 _=>bS (p:=⟨g,0,none⟩) (bG (bA k1 _) hg3 (fun k hk=>Nat.le_trans k2 (HO.out.lt k hk).1)) k3 _,(by have:=hg3.size;simp at this;simp;omega),fun g1 k1 k2 _=>by
    rw [Below.heap_setCell w3 ⟨g,0,none⟩ _ g1 k2,hg3.block g1 (by simp;omega) (fun e=>by have:=(HO.out.lt g1 e.symm).1;omega)];exact Below.heap_alloc W1 _ g1 (by omega)⟩)
   clear ho3 hg3 lY X4 cZ dh eG;obtain ⟨Fe,Fg,Fh⟩:=rO.fB
   )
 exact bodyPost_end (v:=.tuple #[]) (results_none rfl _ _ _) rfl ⟨rfl,⟨_,HF.out⟩,(jR.of hBw HA.out).trans HK.out⟩
structure ahX (w:World) (B g:Nat) (S:List (Pt×Pt)) (w2 W:World):Prop where
 st:∃ v,D7 W B g (lI S) v
 kept:jR B g g w2 W
 below:Below w.heap.size w W
theorem aro (S:List (Pt×Pt)) (q:Pt×Pt):lI (S++[q])=lI S++[q.1,q.2]:=by unfold lI;rw [List.flatMap_append];rfl
theorem arp (S:List (Pt×Pt)):(lI S).length=2*S.length:=by
 unfold lI
 induction S with
 | nil=>rfl
 | cons q S ih=>rw [List.flatMap_cons,List.length_append,ih];simp;omega
theorem arq (w:World) (gm:Nat) (p:Pl) (f:Int->SV) (hpm:qQ w gm p f) (hv:Valid p) (vc:Value) (X:List Int) (hX:Ints w vc X) (hd:∀ d∈X,d∈aQ p) (B g:Nat)
  (hl:(bU p X).length<=40000) (k1:w.heap.size<=B) (k2:w.heap.size<=g) (W:World) (hB:B<=W.heap.size) (v0:Value) (h0:D7 W B g [] v0) (hw:Below w.heap.size w W) :
  Calls Tryz.prog 79 #[.map (some gm),vc,.func (.func 80) #[] #[.pointer (some ⟨g,0,none⟩)]] W fun e W'=>e=.returned (.tuple #[])/\ahX w B g (bU p X) W W':=by
 refine (amI w gm p f hpm hv vc X hX hd g (fun s W'=>ahX w B g s W W') (fun s q=>s++[q]) (fun s W h=>h.below) (fun s W' h=>⟨by obtain ⟨⟨v,h1⟩,-,-⟩:=h;exact ⟨v,h1.keep (bD (bR W'))⟩,h.kept.trans ⟨fun w0 k _ _ _=>bD k,Nat.le_refl _,fun _ _ _ _=>rfl⟩,bD h.below⟩) [] (fun S0 W' q r hs h=>?_) W ⟨⟨v0,h0⟩,jR.refl _ _ _ _,hw⟩).mono ?_
 ·rw [foldl_snoc,List.nil_append] at h ⊢;obtain ⟨⟨v,hst⟩,hk,hb⟩:=h;have hlen:S0.length<=40000:=by
   have:=congrArg List.length hs
   simp only [List.length_append,List.length_cons] at this;omega
  refine (arn q.1 q.2 B g _ v W' hst (Nat.le_trans hB hk.size) (by rw [arp];omega)).mono ?_;rintro e W2 ⟨rfl,⟨v',hst'⟩,hk2⟩;exact ⟨rfl,⟨⟨v',by rw [aro];exact hst'⟩,hk.trans hk2,hk2.below w hb k1 k2 k2⟩,hk2.base hb k1 k2 k2⟩
 ·rintro e W' ⟨rfl,h,-⟩;rw [foldl_snoc,List.nil_append] at h;exact ⟨rfl,h⟩
theorem ahY {w:World} {g:Nat} {t:TypeId} {cs:Array Value} (h:aj w g t cs) {i:Nat} {v:Value} (hv:cs[i]? = some v):w.setCell ⟨g,i,none⟩ v=w:=by
 unfold aj at h;have e:w.heap.modify g (fun
   | .cells c elem frozen=>.cells (if (none:Option Nat).isSome then c else c.setIfInBounds i v) elem frozen
   | o=>o)=w.heap:=by
  apply Array.ext_getElem?;intro k;rw [Array.getElem?_modify];split
  ·rename_i e;subst e;rw [h];simp only [Option.map_some,Option.some.injEq,Option.isSome_none,Bool.false_eq_true,if_false];congr 1;apply Array.ext_getElem?;intro j;rw [Array.getElem?_setIfInBounds];split
   ·rename_i e;subst e;split
    · exact hv.symm
    · rename_i hn;rw [Array.getElem?_eq_none (by omega)] at hv;cases hv
   · rfl
  · rfl
 show ({w with heap:=w.heap.modify g _}:World)=w
 cases w;congr 1
theorem aru {p:Pl} (hf:EY p) {X Y:List Int} (hX:X∈aN p) (hY:Y∈aN p) (e:oP p (some X)=oP p (some Y)):X=Y:=by
 have hd:=hf.differ;unfold List.Nodup at hd;rw [List.pairwise_map,List.pairwise_iff_getElem] at hd;obtain ⟨i,hi,e1⟩:=List.mem_iff_getElem.1 hX;obtain ⟨j,hj,e2⟩:=List.mem_iff_getElem.1 hY;rcases Nat.lt_trichotomy i j with l | l | l
 · exact absurd (by rw [e1,e2];exact e) (hd i j hi hj l)
 · subst l;rw [<- e1,<- e2]
 · exact absurd (by rw [e1,e2];exact e.symm) (hd j i hj hi l)
theorem arv {p:Pl} (hf:EY p) (f:Int):(∃ i:Nat,∃ hi:i<(aN p).length,Dt (pI p (aN p) ((aN p).length+1)) f=(i:Int)+1/\IJ p f=some (aN p)[i])\/(Dt (pI p (aN p) ((aN p).length+1)) f<1/\IJ p f=none):=by
 have hF:∀ k (hk:k<(aN p).length+1),(pI p (aN p) ((aN p).length+1))[k]'(by rw [xK];exact hk)=jF p (aN p) k:=fun k hk=>by
  unfold pI;rw [List.getElem_map,List.getElem_range]
 have hfc:∀ i (hi:i<(aN p).length),jF p (aN p) (i+1)=oP p (some (aN p)[i]):=fun i hi=>by rw [FB (by omega) (by omega)];rfl
 unfold Dt
 cases c:(pI p (aN p) ((aN p).length+1)).findIdx? (fun y=>y == f) with
 | none =>
  refine .inr ⟨by show (-1:Int)<1;omega,?_⟩
  cases c2:IJ p f with
  | none=>rfl
  | some X =>
   obtain ⟨hX,e⟩:=aa1 c2;obtain ⟨i,hi,rfl⟩:=List.mem_iff_getElem.1 hX;rw [List.findIdx?_eq_none_iff] at c;have:=c _ (List.getElem_mem (show i+1<(pI p (aN p) ((aN p).length+1)).length by rw [xK];omega))
   rw [hF (i+1) (by omega),hfc i hi,e] at this;simp at this
 | some k =>
  obtain ⟨hk,he,-⟩:=List.findIdx?_eq_some_iff_getElem.1 c;rw [xK] at hk;rw [hF k hk] at he;have he:=eq_of_beq he
  cases k with
  | zero =>
   refine .inr ⟨by show ((0:Nat):Int)<1;omega,?_⟩
   cases c2:IJ p f with
   | none=>rfl
   | some X =>
    obtain ⟨hX,e⟩:=aa1 c2;exact absurd (show jd p (X.headD 0)=0 from e.trans he.symm) (hf.some X hX)
  | succ i =>
   refine .inl ⟨i,by omega,by show ((i+1:Nat):Int)=_;omega,?_⟩;rw [hfc i (by omega)] at he
   cases c2:IJ p f with
   | none=>exact absurd (beq_iff_eq.2 he) (List.find?_eq_none.1 c2 _ (List.getElem_mem (by omega)))
   | some X =>
    obtain ⟨hX,e⟩:=aa1 c2;rw [aru hf hX (List.getElem_mem _) (e.trans he.symm)]
end Go.Proofs.YtialfdomhoojiaaGreat
