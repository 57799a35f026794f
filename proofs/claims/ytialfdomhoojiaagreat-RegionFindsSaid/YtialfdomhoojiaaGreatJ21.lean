import Derived.Test.YtialfdomhoojiaaGreatJ20
set_option linter.unusedSimpArgs false
set_option linter.unusedVariables false
set_option maxRecDepth 100000
set_option maxHeartbeats 8000000
namespace Go.Proofs.YtialfdomhoojiaaGreat
open Go.RowKit
structure asi (w:World) (B g:Nat) (l:List Int) (v:Value):Prop where
 box:AO w g 24 #[v]
 own:Own w B 3 1 D5 v l
structure SL (w:World) (B g1 g2 g3:Nat) (y:Int) (T:List Rn) (C:List Int) (vt vc:Value):Prop where
 row:AO w g1 3 #[.int .i64 y]
 tkn:Xp w B g2 T vt
 Kw:asi w B g3 C vc
theorem SL.keep {w w':World} {B g1 g2 g3:Nat} {y:Int} {T:List Rn} {C:List Int} {vt vc:Value} (h:SL w B g1 g2 g3 y T C vt vc) (hb:AP w w'):SL w' B g1 g2 g3 y T C vt vc :=
 ⟨h.row.keep hb,h.tkn.keep hb,h.Kw.box.keep hb,h.Kw.own.keep hb⟩
structure Ir (B g2 g3:Nat) (W W':World):Prop where
 below:∀ w0:World,AP w0 W->w0.heap.size<=B->w0.heap.size<=g2->w0.heap.size<=g3->AP w0 W'
 size:W.heap.size<=W'.heap.size
 blk:∀ g,g<B->g≠g2->g≠g3->W'.heap[g]? = W.heap[g]?
theorem Ir.refl (B g2 g3:Nat) (W:World):Ir B g2 g3 W W:=⟨fun _ h _ _ _=>h,DT _,fun _ _ _ _=>rfl⟩
theorem Ir.trans {B g2 g3:Nat} {W W' W'':World} (h:Ir B g2 g3 W W') (h':Ir B g2 g3 W' W''):Ir B g2 g3 W W'' :=
 ⟨fun w0 k0 k1 k2 k3=>h'.below w0 (h.below w0 k0 k1 k2 k3) k1 k2 k3,Dn h.size h'.size,fun g k1 k2 k3=>(h'.blk g k1 k2 k3).trans (h.blk g k1 k2 k3)⟩
theorem Ir.of {B g2 g3:Nat} {W W':World} (hB:B<=W.heap.size) (h:AP W W'):Ir B g2 g3 W W' :=
 ⟨fun w0 k0 _ _ _=>bT k0 h,h.size,fun g k1 _ _=>h.block g (L9 k1 hB)⟩
theorem Ir.keep {B g2 g3:Nat} {W W':World} (h:Ir B g2 g3 W W') {g:Nat} {t:TypeId} {cs:Array Value} (hb:AO W g t cs) (h1:g<B) (h2:g≠g2) (h3:g≠g3):AO W' g t cs:=(h.blk g h1 h2 h3).trans hb
theorem SL.aeJ {w w3:World} {B g1 g2 g3:Nat} {y:Int} {T T2:List Rn} {C:List Int} {vt vc aBl:Value} {o:Obj} (h:SL w B g1 g2 g3 y T C vt vc) (hB:B<=w.heap.size) (hg:(w.alloc o).grownBy w3 vt.ownBlock) (ho:Own w3 B 121 2 G9 aBl T2) :
  SL (w3.setCell ⟨g2,0,none⟩ aBl) B g1 g2 g3 y T2 C aBl vc/\Ir B g2 g3 w (w3.setCell ⟨g2,0,none⟩ aBl):=by
 have X2:=AO.grown (h.tkn.box.alloc o) hg (fun e=>Own.Dz h.tkn.own h.tkn.box BG e.symm);have X1:=AO.grown (h.row.alloc o) hg (fun e=>Own.Dz h.tkn.own h.row BG e.symm);have X3:=AO.grown (h.Kw.box.alloc o) hg (fun e=>Own.Dz h.tkn.own h.Kw.box BG e.symm);have O3:=Own.grown (Own.alloc h.Kw.own o) hg (fun g hg=>Own.apart h.Kw.own h.tkn.own BG g hg);refine ⟨⟨X1.far (p:=⟨g2,0,none⟩) (AO.MX X1 X2 BG) _,⟨X2.EW 0 _,ho.far (p:=⟨g2,0,none⟩) (Own.Dz ho X2 BG) _⟩,⟨X3.far (p:=⟨g2,0,none⟩) (AO.MX X3 X2 BG) _,O3.far (p:=⟨g2,0,none⟩) (Own.Dz O3 X2 BG) _⟩⟩,fun w0 k1 k2 k3 _=>?_,?_,fun g k1 k2 _=>?_⟩
 · exact bS (p:=⟨g2,0,none⟩) (bG (bA k1 _) hg (fun k hk=>Dn k2 (h.tkn.own.lt k hk).1)) k3 _
 · have:=hg.size;simp at this;simp;omega
 ·rw [Below.heap_setCell w3 ⟨g2,0,none⟩ _ g k2,hg.block g DC (fun e=>by have:=(h.tkn.own.lt g e.symm).1;omega)];exact Below.heap_alloc w _ g AB
theorem SL.asj {w w3:World} {B g1 g2 g3:Nat} {y:Int} {T:List Rn} {C C2:List Int} {vt vc xq:Value} {o:Obj} (h:SL w B g1 g2 g3 y T C vt vc) (hB:B<=w.heap.size) (hg:(w.alloc o).grownBy w3 vc.ownBlock) (ho:Own w3 B 3 1 D5 xq C2) (hn:vc.ownBlock≠some g1) (hn2:xq.ownBlock≠some g3) :
  SL (w3.setCell ⟨g3,0,none⟩ xq) B g1 g2 g3 y T C2 vt xq/\Ir B g2 g3 w (w3.setCell ⟨g3,0,none⟩ xq):=by
 have X3:=AO.grown (h.Kw.box.alloc o) hg (fun e=>Own.Dz h.Kw.own h.Kw.box BG e.symm);have X1:=AO.grown (h.row.alloc o) hg (fun e=>hn e.symm);have X2:=AO.grown (h.tkn.box.alloc o) hg (fun e=>Own.Dz h.Kw.own h.tkn.box BG e.symm);have O2:=Own.grown (Own.alloc h.tkn.own o) hg (fun g hg=>Own.apart h.tkn.own h.Kw.own BG g hg);refine ⟨⟨X1.far (p:=⟨g3,0,none⟩) (AO.MX X1 X3 BG) _,⟨X2.far (p:=⟨g3,0,none⟩) (AO.MX X2 X3 BG) _,O2.far (p:=⟨g3,0,none⟩) (Own.Dz O2 X3 BG) _⟩,⟨X3.EW 0 _,ho.far (p:=⟨g3,0,none⟩) hn2 _⟩⟩,fun w0 k1 k2 _ k3=>?_,?_,fun g k1 _ k2=>?_⟩
 · exact bS (p:=⟨g3,0,none⟩) (bG (bA k1 _) hg (fun k hk=>Dn k2 (h.Kw.own.lt k hk).1)) k3 _
 · have:=hg.size;simp at this;simp;omega
 ·rw [Below.heap_setCell w3 ⟨g3,0,none⟩ _ g k2,hg.block g DC (fun e=>by have:=(h.Kw.own.lt g e.symm).1;omega)];exact Below.heap_alloc w _ g AB
def asl (W:World) (B g1 g2 g3:Nat) (y:Int) (T:List Rn) (C:List Int) (e:Ending) (W':World):Prop :=
 e=.returned (.tuple #[])/\(∃ vt vc,SL W' B g1 g2 g3 y T C vt vc)/\Ir B g2 g3 W W'
theorem ajp {u v:Int} (hu:-2097152<=u/\u<=2097152) (hv:-2097152<=v/\v<=2097152):-4398046511104<=u*v/\u*v<=4398046511104:=by
 have h1:=aAL hv.2 (show (0:Int)<=2097152 by omega);rcases Zj 0 u with h | h
 ·have a1:=aAL hv.2 h;have a2:=aAL hv.1 h;omega
 ·have a1:=afw h hv.1;have a2:=afw h hv.2;omega
theorem asn {t d H D:Int} (hH:0<H) (h0:0<=t) (h1:t<=H) (hd:-D<=d/\d<=D):-D<=SH (t*d) H/\SH (t*d) H<=D:=by
 have hD:0<=D:=by omega
 constructor
 ·have h2:¬ SH (t*d) H<=-D-1:=by
   rw [yM hH];have a1:t*(-D)<=t*d:=aAL hd.1 h0;have a2:t*D<=H*D:=abf h1 hD;have a3:(-D-1)*H=-(H*D)-H:=by rw [Int.sub_mul,OZ,Int.one_mul,KL D H]
   have a4:t*(-D)=-(t*D):=by rw [aAC]
   omega
  omega
 ·rw [yM hH];have a1:t*d<=t*D:=aAL hd.2 h0;have a2:t*D<=H*D:=abf h1 hD;have a3:D*H=H*D:=KL D H;omega
theorem aso (a b:Pt) (ha:N9 a) (hb:N9 b) (y:Int) (B g1 g2 g3:Nat) (T:List Rn) (C:List Int) (vt vc:Value) (w:World) (h:SL w B g1 g2 g3 y T C vt vc) (hBw:B<=w.heap.size) (hg1:g1<B) (hT:T.length<=1000000) (hC:C.length<=1000000) :
  Calls Tryz.prog 202 #[BD a,BD b,.pointer (some ⟨g1,0,none⟩),.pointer (some ⟨g2,0,none⟩),.pointer (some ⟨g3,0,none⟩)] w (asl w B g1 g2 g3 y (T++Q5 y (a,b)) (C++IX y (a,b))):=by
 have xu:=AA (@asQ);obtain ⟨lo,hlo⟩:=BL (Gl a b);obtain ⟨hi,hhi⟩:=BL (JH a b);obtain ⟨R,hR⟩:=BL (Q5 y (a,b));obtain ⟨S,hS⟩:=BL (IX y (a,b));rw [hR,hS];obtain ⟨rise,hrise⟩:=BL ((y-lo.y)*(hi.x-lo.x));obtain ⟨q,hq⟩:=BL (SH rise (hi.y-lo.y));have hat:Wi y a b=q:=by unfold Wi;rw [hlo,hhi,hrise,hq]
 have HR:=AA (show R=if y<lo.y\/hi.y<y then [] else if lo.y=hi.y then [⟨min lo.x hi.x,max lo.x hi.x+1⟩] else if q*(hi.y-lo.y)=rise then [⟨lo.x+q,lo.x+q+1⟩] else [] by
  rw [<- hR];unfold Q5;simp only;rw [hat,hlo,hhi,hrise])
 have HS:=AA (show S=if lo.y<=y/\y<hi.y then [lo.x+q] else [] by
  rw [<- hS];unfold IX;simp only;rw [hat,hlo,hhi])
 have RV:=AA hrise;have HQ:=AA hq;clear hat hrise hq;have hll:(b.y<a.y/\lo=b/\hi=a)\/(¬ b.y<a.y/\lo=a/\hi=b):=by
  rw [<- hlo,<- hhi];unfold Gl JH;by_cases e:b.y<a.y
  · exact .inl ⟨e,by rw [AZ e],by rw [AZ e]⟩
  · exact .inr ⟨e,by rw [AX e],by rw [AX e]⟩
 have kU:N9 lo:=by rcases hll with ⟨-,e,-⟩ | ⟨-,e,-⟩<;>rw [e]<;>assumption
 have kV:N9 hi:=by rcases hll with ⟨-,-,e⟩ | ⟨-,-,e⟩<;>rw [e]<;>assumption
 have hlh:lo.y<=hi.y:=by rcases hll with ⟨e0,e,e2⟩ | ⟨e0,e,e2⟩<;>rw [e,e2]<;>omega
 have HH:=AA h;have X1:=h.row;have hg2:=h.tkn.box.lt;have hg3:=h.Kw.box.lt;have hg1:=X1.lt;unfold BD;clear hR hS hlo hhi h;go_enter Tryz.func202,Tryz.ntmps202;go_upto_region 1 with fail;obtain ⟨W1,hW⟩:=BO ((w.alloc (.cells #[.int .i64 a.x,.int .i64 a.y] 39)).alloc (.cells #[.int .i64 b.x,.int .i64 b.y] 39));have X5:AO W1 w.heap.size 39 #[.int .i64 a.x,.int .i64 a.y]:=by rw [hW];exact (AO.made rfl _ _).alloc _
 have X6:AO W1 (w.heap.size+1) 39 #[.int .i64 b.x,.int .i64 b.y]:=by rw [hW];exact AO.made Aw _ _
 have hA:AP w W1:=by rw [hW];exact bA (bA (bR w) _) _
 have HA:=AA hA;rw [<- hW];clear hW hA X1;obtain ⟨g6,JB⟩:=BL (w.heap.size+1);obtain ⟨g5,hg5⟩:=BL w.heap.size;have hl5:w.heap.size<=g5:=by omega
 have hl6:w.heap.size<=g6:=by omega
 have n1:g5≠g6:=by omega
 have n2:g6≠g5:=by omega
 rw [JB] at X6 ⊢;rw [hg5] at X5 ⊢;clear hg5 JB;have D8:=AA X5;have IV:=AA X6;obtain ⟨CJ,CO,CS,VT,VU⟩:=X5.BN;obtain ⟨EF,EG,EH,XD,XE⟩:=X6.BN;rcases hll with ⟨hsw,e1,e2⟩ | ⟨hsw,e1,e2⟩;subst e1 e2;go_upto_region 3 with fail;obtain ⟨W2,hW⟩:=BO ((((W1.setCell ⟨g5,0,none⟩ (.int .i64 lo.x)).setCell ⟨g5,1,none⟩ (.int .i64 lo.y)).setCell ⟨g6,0,none⟩ (.int .i64 hi.x)).setCell ⟨g6,1,none⟩ (.int .i64 hi.y));have Y5:AO W2 g5 39 #[.int .i64 lo.x,.int .i64 lo.y]:=by rw [hW];exact ((AO.QI D8.out).far (p:=⟨g6,0,none⟩) n1 _).far (p:=⟨g6,1,none⟩) n1 _
 have Y6:AO W2 (g6) 39 #[.int .i64 hi.x,.int .i64 hi.y]:=by rw [hW];exact AO.QI ((IV.out.far (p:=⟨g5,0,none⟩) n2 _).far (p:=⟨g5,1,none⟩) n2 _)
 have HA2:=AA (show AP w W2 by rw [hW];exact bS (p:=⟨g6,1,none⟩) (bS (p:=⟨g6,0,none⟩) (bS (p:=⟨g5,1,none⟩) (bS (p:=⟨g5,0,none⟩) HA.out hl5 _) hl5 _) hl6 _) hl6 _);rw [<- hW];clear hW HA D8 IV X5 X6 CJ CO CS VT VU EF EG EH XD XE
 rotate_left
 subst e1 e2;go_upto_region 3 with fail;obtain ⟨W2,hW⟩:=BO W1;have Y5:=X5;have Y6:=X6;rw [<- hW] at Y5 Y6 HA ⊢;have HA2:=HA;clear hW HA D8 IV X5 X6 CJ CO CS VT VU EF EG EH XD XE
 all_goals
  have Ug:=AA (HH.out.keep HA2.out);have X1:=Ug.out.row;have kW:=AA Y5;have HY6:=AA Y6;clear HH;obtain ⟨Ak,Au,-⟩:=X1.Fa;obtain ⟨Y5l,Y5a,Y5b,-,-⟩:=Y5.BN;obtain ⟨Y6l,Y6a,Y6b,-,-⟩:=Y6.BN;by_cases h1:y<lo.y
  ·have hr:=HR.out;have hs:=HS.out;rw [AZ (.inl h1)] at hr;rw [AX (fun e=>by omega)] at hs;subst hr hs;clear HR HS;go_wp2_with fail;refine bodyPost_ret (results_none rfl _ _ _) rfl ⟨rfl,⟨vt,vc,by simpa using Ug.out⟩,Ir.of hBw HA2.out⟩
  by_cases h2:hi.y<y
  ·have hr:=HR.out;have hs:=HS.out;rw [AZ (.inr h2)] at hr;rw [AX (fun e=>by omega)] at hs;subst hr hs;clear HR HS;go_wp2_with fail;refine bodyPost_ret (results_none rfl _ _ _) rfl ⟨rfl,⟨vt,vc,by simpa using Ug.out⟩,Ir.of hBw HA2.out⟩
  have hr:=HR.out;rw [AX (fun e=>e.elim h1 h2)] at hr;have HR2:=AA hr;clear hr HR;obtain ⟨At,ct,hvt,-⟩:=Ug.out.tkn.own.sl;obtain ⟨Ac,cc,uY,-⟩:=Ug.out.Kw.own.sl;subst hvt uY;have X2:=Ug.out.tkn.box;have X3:=Ug.out.Kw.box;have CG:=AA X2;have Ep:=AA X3;by_cases hfl:lo.y=hi.y
  · first
  | exfalso;omega
  | skip
    have hr:=HR2.out;have hs:=HS.out;rw [AZ hfl] at hr;rw [AX (fun e=>by omega)] at hs;subst hr hs;clear HR2 HS;have kx:IntKind.i64.wrap (max lo.x hi.x+1)=max lo.x hi.x+1:=Ci _ (by have:=kU.1;have:=kV.1;omega);have hB2:B<=W2.heap.size:=Dn hBw HA2.out.size;have hsh:(T++[(⟨min lo.x hi.x,max lo.x hi.x+1⟩:Rn)]).length=T.length+1:=by simp
    have DL:=AA hsh;clear hsh;obtain ⟨BQ,BR,XI⟩:=X2.Fa;go_wp2_with
     (at_builtin
      refine Ew _ rfl (.tmp 33) (.tmp 46) _ rfl (base:=B) YW Xo YV rfl (Own.alloc Ug.out.tkn.own _) rfl (l2:=[(⟨min lo.x hi.x,max lo.x hi.x+1⟩:Rn)]) (Sl.lit (n:=1) (AO.made rfl _ _) rfl (D6 AB)) DR DR DC ?_;intro v3 w3 ho3 hg3 Jc;obtain ⟨A3,c3,hv3,-⟩:=ho3.sl;rw [DL.out] at hv3;subst hv3;have HF:=AA (Ug.out.aeJ hB2 hg3 ho3);have Pv:=AO.grown (CG.out.alloc _) hg3 (fun e=>Own.Dz Ug.out.tkn.own CG.out BG e.symm);clear ho3 hg3 Jc X2 BQ BR XI;obtain ⟨bI,bJ,bK⟩:=Pv.Fa
      )
    refine bodyPost_ret (results_none rfl _ _ _) rfl ⟨rfl,⟨_,_,by first | exact HF.out.1 | (rw [IQ];exact HF.out.1)⟩,(Ir.of hBw HA2.out).trans HF.out.2⟩
  have hH:0<hi.y-lo.y:=by omega
  have hr:=HR2.out;rw [AX hfl] at hr;have HR3:=AA hr;have hcb:=asn (t:=y-lo.y) (d:=hi.x-lo.x) (H:=hi.y-lo.y) (D:=2097152) hH AB AB (by have:=kU.1;have:=kV.1;omega);have hrb:=ajp (u:=y-lo.y) (v:=hi.x-lo.x) (by have:=kU.2;have:=kV.2;omega) (by have:=kU.1;have:=kV.1;omega);have hqb:=ajp (u:=q) (v:=hi.y-lo.y) (by rw [RV.out,HQ.out] at hcb;omega) (by have:=kU.2;have:=kV.2;omega);rw [RV.out] at hcb hrb;rw [HQ.out] at hcb;have b1:=kU.1;have b2:=kV.1;have b3:=kU.2;have b4:=kV.2;have hbd:YT rise:=by unfold YT;omega
  have hce:=fun W=>xu.out rise (hi.y-lo.y) W hbd hH;rw [HQ.out] at hce;have fB:=AA hce;have hB2:B<=W2.heap.size:=Dn hBw HA2.out.size;have kf:IntKind.i64.wrap (lo.x+q)=lo.x+q:=Ci _ AB;have kg:IntKind.i64.wrap (lo.x+q+1)=lo.x+q+1:=Ci _ AB;have KF:=AA kf;have KG:=AA kg;have ke:IntKind.i64.wrap (q*(hi.y-lo.y))=q*(hi.y-lo.y):=Ci _ AB;have KE:=AA ke;have ka:IntKind.i64.wrap (y-lo.y)=y-lo.y:=Ci _ AB;have kb:IntKind.i64.wrap (hi.x-lo.x)=hi.x-lo.x:=Ci _ AB;have kd:IntKind.i64.wrap (hi.y-lo.y)=hi.y-lo.y:=Ci _ AB;have kc:IntKind.i64.wrap ((y-lo.y)*(hi.x-lo.x))=rise:=by rw [RV.out];exact Ci _ AB
  clear hr hcb hrb hqb hce hbd kf kg ke xu HR2;go_upto_region 6 with fail;refine Cj (W2) (.run 17 0 0 (.done)) fun Bv QR Ae Ah hS=>?_
  iterate 17 refine Aj ?_
  refine Ce ?_;clear hS Ah Ae;intro hB;skip;clear ka kb kc kd;have ke:=KE.out;have kf:=KF.out;have kg:=KG.out;go_wp2_with fail;refine (fB.out _).mono ?_;rintro e w4 ⟨rfl,hw4⟩;have XV:=AA (Ug.out.keep hB);have LM:=AA (bT HA2.out hB);have kX:=AA (kW.out.keep hB);have kY:=AA (HY6.out.keep hB);have hBn:B<=W2.drew.heap.size:=Dn hB2 hB.size;rw [hw4] at *;clear X1 Ak Au Y5 Y5l Y5a Y5b Y6 Y6l Y6a Y6b X2 X3 CG Ep Ug kW HY6 hB2;have XR:=XV.out.row;have XT:=XV.out.tkn.box;have Z5:=kX.out;have Z6:=kY.out;have ng:=AA XT;obtain ⟨y7,wU,-⟩:=XR.Fa;obtain ⟨XTl,XTa,ajq⟩:=XT.Fa;obtain ⟨aBm,aBn,aBo,-,-⟩:=Z5.BN;obtain ⟨aBp,aBq,aBr,-,-⟩:=Z6.BN;rcases Decidable.em (q*(hi.y-lo.y)=rise) with h3 | h3;have hr:=HR3.out;rw [AZ h3] at hr;subst hr;have hsh:(T++[(⟨lo.x+q,lo.x+q+1⟩:Rn)]).length=T.length+1:=by simp
  have DL:=AA hsh;have kr:IntKind.i64.wrap rise=rise:=by rw [<- h3];exact ke
  clear hsh HR3;go_upto_region 10 with
   (at_builtin
    refine Ew _ rfl (.tmp 74) (.tmp 85) _ rfl (base:=B) YW Xo YV rfl (Own.alloc XV.out.tkn.own _) rfl (l2:=[(⟨lo.x+q,lo.x+q+1⟩:Rn)]) (Sl.lit (n:=1) (AO.made rfl _ _) rfl (D6 AB)) DR DR DC ?_;intro v3 w3 ho3 hg3 Jc;obtain ⟨A3,c3,hv3,-⟩:=ho3.sl;rw [DL.out] at hv3;subst hv3;have HF:=AA (XV.out.aeJ hBn hg3 ho3);have Pv:=AO.grown (ng.out.alloc _) hg3 (fun e=>Own.Dz XV.out.tkn.own ng.out BG e.symm);have aBs:=AA ((AO.grown (kX.out.alloc _) hg3 (fun e=>Own.Dz XV.out.tkn.own kX.out BG e.symm)).far (p:=⟨g2,0,none⟩) (AO.MX kX.out ng.out BG) (.slice A3 (T.length+1) c3));have aBt:=AA ((AO.grown (kY.out.alloc _) hg3 (fun e=>Own.Dz XV.out.tkn.own kY.out BG e.symm)).far (p:=⟨g2,0,none⟩) (AO.MX kY.out ng.out BG) (.slice A3 (T.length+1) c3));clear ho3 hg3 Jc XT XTl XTa ajq
    try clear bI bJ
    try clear bK
    obtain ⟨bI,bJ,bK⟩:=Pv.Fa
    )
  obtain ⟨W5,GU⟩:=BO (w3.setCell ⟨g2,0,none⟩ (.slice A3 (T.length+1) c3));have HQ:=AA HF.out.1;have Tv:=AA ((Ir.of hBw LM.out).trans HF.out.2);rw [<- GU] at HQ Tv aBs aBt ⊢;clear GU HF Pv bI bJ bK XV LM kX kY ng XR y7 wU Z5 aBm aBn aBo Z6 aBp aBq aBr hBn
  rotate_left
  have hr:=HR3.out;rw [AX h3] at hr;subst hr;clear HR3;go_upto_region 10 with fail;obtain ⟨W5,GU⟩:=BO w4;have HQ:=AA (show SL _ _ _ _ _ _ (T++[]) _ _ _ by rw [IQ];exact XV.out);have Tv:=AA (Ir.of (g2:=g2) (g3:=g3) hBw LM.out);have aBs:=kX;have aBt:=kY;rw [<- GU] at HQ Tv aBs aBt ⊢;clear GU XV LM kX kY ng XR y7 wU XT XTl XTa ajq Z5 aBm aBn aBo Z6 aBp aBq aBr hBn
  all_goals
   have XR:=HQ.out.row;have Z5:=aBs.out;have Z6:=aBt.out;have XC:=HQ.out.Kw.box;have HXC:=AA XC;have hB5:B<=W5.heap.size:=Dn hBw Tv.out.size;have kf:=KF.out
   try clear y7 wU
   obtain ⟨y7,wU,-⟩:=XR.Fa
   try clear aBm aBn aBo
   obtain ⟨aBm,aBn,aBo,-,-⟩:=Z5.BN
   try clear aBp aBq aBr
   obtain ⟨aBp,aBq,aBr,-,-⟩:=Z6.BN;obtain ⟨XCl,XCa,asq⟩:=XC.Fa;by_cases h4:y<hi.y
   ·have hs:=HS.out;rw [AZ ⟨AB,h4⟩] at hs;subst hs;have hsh:(C++[lo.x+q]).length=C.length+1:=by simp
    have DL:=AA hsh;clear hsh HS;go_wp2_with
     (at_builtin
      refine Ew _ rfl (.tmp 91) (.tmp 96) _ rfl (base:=B) IB Gt IK rfl (Own.alloc HQ.out.Kw.own _) rfl (l2:=[lo.x+q]) (Sl.lit (n:=1) (AO.made rfl _ _) rfl (D6 AB)) DR DR DC ?_;intro v3 w3 ho3 hg3 Jc;obtain ⟨A3,c3,hv3,-⟩:=ho3.sl;rw [DL.out] at hv3;subst hv3;have Pv:=AO.grown (HXC.out.alloc _) hg3 (fun e=>Own.Dz HQ.out.Kw.own HXC.out BG e.symm);have HF:=AA (HQ.out.asj hB5 hg3 ho3 (fun e=>by have:=(HQ.out.Kw.own.lt g1 e).1;omega) (Own.Dz ho3 Pv BG));clear ho3 hg3 Jc XC XCl XCa asq
      try clear bI bJ
      try clear bK
      obtain ⟨bI,bJ,bK⟩:=Pv.Fa
      )
    exact bodyPost_end (v:=.tuple #[]) (results_none rfl _ _ _) rfl ⟨rfl,⟨_,_,by first | exact HF.out.1 | (have hf:=HF.out.1;simp only [IQ] at hf;exact hf)⟩,Tv.out.trans HF.out.2⟩
   ·have hs:=HS.out;rw [AX (fun e=>h4 e.2)] at hs;subst hs;clear HS;go_wp2_with fail;exact bodyPost_end (v:=.tuple #[]) (results_none rfl _ _ _) rfl ⟨rfl,⟨_,_,by first | exact HQ.out | (have hf:=HQ.out;simp only [IQ] at hf;exact hf)⟩,Tv.out⟩
def MQ (x:AD):List (List Int×SV):=(x.out,x.ov)::x.inn
theorem aeK (x:AD) (w:World) (hr:Sl w (BJ x.iv) x.inn.length (x.inn.flatMap Ib)) (hl:x.inn.length<=100000) :
  Calls Tryz.prog 64 #[.agg #[.int .i64 x.tw,BJ x.ov,BJ x.iv,BJ x.av]] w fun e w'=>(∃ A c,e=.returned (.slice A (MQ x).length c)/\Own w' w.heap.size 24 1 Ib (.slice A (MQ x).length c) (MQ x))/\AP w w':=by
 obtain ⟨tw,out,⟨oa,on,oc⟩,inn,⟨ia,FY,ic⟩,CU,⟨aa,an,ac⟩⟩:=x;unfold BJ MQ at *;simp only at hr hl ⊢;have HS:=AA hr;obtain ⟨Ai,ci,he,-⟩:=hr;injection he with e1 e2 e3;subst e2;have HO:=AA (Own.lit (w.alloc (.cells #[.int .i64 tw,.slice oa on oc,.slice ia inn.length ic,.slice aa an ac] 82)) w.heap.size 24 1 Ib [((out,⟨oa,on,oc⟩):List Int×SV)] #[.slice oa on oc] 1 (w.heap.size+1) Aw rfl Aw (D6 AB) rfl rfl);have hle:((out,⟨oa,on,oc⟩)::inn:List (List Int×SV)).length=inn.length+1:=rfl;rw [hle];clear e1 e3 hle;go_enter Tryz.func64,Tryz.ntmps64;go_wp2_with
  (at_builtin
   refine Ew _ rfl (.tmp 5) (.tmp 7) _ rfl (base:=w.heap.size) YK XO YJ rfl HO.out rfl (l2:=inn) (HS.out.mono (bA (bA (bR w) _) _)) DR DR (by simp only [World.size_alloc];omega) ?_;intro v2 w2 ho2 hg2 Tz;obtain ⟨A2,c2,hv2,-⟩:=Own.IE ho2;rw [show ([((out,⟨oa,on,oc⟩):List Int×SV)]++inn).length=inn.length+1 by rw [EC,lJ];omega] at hv2;subst hv2;have EU:=AA ho2;have HB2:=AA (bG (bA (bA (bR w) _) _) hg2 (fun g hg=>(HO.out.lt g hg).1));clear ho2 hg2 Tz
   )
 go_ret;exact ⟨⟨A2,c2,rfl,EU.out⟩,HB2.out⟩
theorem ajr (l:List Rn):(Pn l).length<=l.length:=by
 have h:=aeT (jF l) (jF l).length;unfold Nq at h;rw [H8] at h;unfold Pn jG;have e:(jF l).length=l.length:=(pO l).1.length_eq;omega
def sliceLen:Value->Nat
 | .slice _ n _=>n
 | _=>0
def wV (A:Option Addr) (N:List Rn) (s:Value) (j:Nat):Prop :=
 ∃ A' c,s=.slice A' (N.length-j) c/\N.length-j<=c/\c<=9223372036854775807/\∀ g,A=some ⟨g,0,none⟩->j<N.length->A'=some ⟨g,j*2,none⟩
theorem wV.next {A:Option Addr} {N:List Rn} {gb j c:Nat} (hA:A=some ⟨gb,0,none⟩) (hj:j<N.length) (hc:N.length-j<=c) (hc2:c<=9223372036854775807) :
  wV A N (.slice (if c=1 then some ⟨gb,j*2,none⟩ else some ⟨gb,j*2+2,none⟩) (N.length-j-1) (c-1)) (j+1):=by
 refine ⟨_,c-1,by rw [Nat.sub_sub],AB,AB,fun g hg hlt=>?_⟩;rw [AX AB];rw [hA] at hg;injection hg with hg;injection hg with hg _ _;subst hg;rw [Nat.add_mul,Nat.one_mul]
theorem drop_step {N:List Rn} {j:Nat} {lo:Int} (hj:j<N.length) (h:N[j].hi<=lo):NJ lo (N.drop j)=NJ lo (N.drop (j+1)):=by
 rw [Qk hj];unfold NJ;rw [fU,AZ (by simpa using h)]
theorem asr {N:List Rn} {j:Nat} {lo:Int} (hj:j<N.length) (h:¬ N[j].hi<=lo):NJ lo (N.drop j)=N.drop j:=by
 rw [Qk hj];unfold NJ;rw [fU,AX (by simpa using h)]
theorem auH {N:List Rn} {lo:Int} {j:Nat} (h:N.length<=j):NJ lo (N.drop j)=N.drop j:=by
 rw [ab2 h];rfl
theorem ajs {N:List Rn} {j:Nat} {lo hi:Int} (hj:j<N.length) (h:N[j].lo<hi):Ot hi lo (N.drop j)=J9 lo N[j].lo++Ot hi N[j].hi (N.drop (j+1)):=by
 rw [Qk hj,Ot,AZ h]
theorem ajt {N:List Rn} {j:Nat} {lo hi:Int} (hj:j<N.length) (h:¬ N[j].lo<hi):Ot hi lo (N.drop j)=J9 lo hi:=by
 rw [Qk hj];unfold Ot;rw [AX h]
theorem auI {N:List Rn} {lo hi:Int} {j:Nat} (h:N.length<=j):Ot hi lo (N.drop j)=J9 lo hi:=by
 rw [ab2 h];rfl
theorem aju {wA wB:World} {B g4 g7 Ba Bb:Nat} {L M N:List Rn} {v v2 Va Vb:Value} {t:TypeId} {cs:Array Value} (hx:Xp wA B g4 L v) (hk:WW wA wB g4 v.ownBlock) (hat:NewAt wA v v2) (h7:v.ownBlock≠some g7) (X7:AO wA g7 t cs) (hne:g7≠g4)
  (hm:Own wA Ba 121 2 G9 Va M) (hmk:∀ q,Va.ownBlock=some q->q<B) (hn:Own wA Bb 121 2 G9 Vb N) (hnk:∀ q,Vb.ownBlock=some q->q<B) :
  AO wB g7 t cs/\v2.ownBlock≠some g7/\Own wB Ba 121 2 G9 Va M/\Own wB Bb 121 2 G9 Vb N:=by
 have key:∀ {V:Value},(∀ q,V.ownBlock=some q->q<B)->∀ k,V.ownBlock=some k->v.ownBlock≠some k:=fun hV k e e2=>by
  have h1:=hV k e;have h2:=(hx.own.lt k e2).1;omega
 refine ⟨hk.keep X7 hne h7,fun e=>?_,hk.own hm (Own.Dz hm hx.box BG) (key hmk),hk.own hn (Own.Dz hn hx.box BG) (key hnk)⟩;rcases hat with h | ⟨k,h,h2⟩
 · exact h7 (h.symm.trans e)
 ·rw [h] at e;injection e with e;have:=X7.lt
  omega
theorem ajv (lo hi:Int):(J9 lo hi).length<=1:=by unfold J9;split<;>simp
theorem auJ {M N:List Rn} {k j j':Nat} (hk:k<M.length) (h:NJ M[k].lo (N.drop j)=N.drop j'):OO (M.drop k) (N.drop j)=Ot M[k].hi M[k].lo (N.drop j')++OO (M.drop (k+1)) (N.drop j'):=by
 rw [Qk hk,OO,h]
theorem auK:∀ w,(isAgg 124).run Tryz.prog w=.ok false w:=fun _=>by kernel_rfl
theorem auL (va vb:Value) (a b:List Rn) (w:World) (ha:jI w va a) (hb:jI w vb b) (hla:a.length<=50000) (hlb:b.length<=50000):Calls Tryz.prog 204 #[va,vb] w (aeS w (OO (Pn a) (Pn b))):=by
 have XW:=AA (fun W (hW:AP w W)=>aiq va a W (ha.mono hW) AB);have ZI:=AA (fun W (hW:AP w W)=>aiq vb b W (hb.mono hW) AB);have Lj:=AA (@asc);have hlm:=ajr a;have hln:=ajr b;obtain ⟨M,hM⟩:=BL (Pn a);obtain ⟨N,hN⟩:=BL (Pn b);rw [hM] at XW hlm ⊢;rw [hN] at ZI hln ⊢;have hml:M.length<=50000:=by omega
 have hnl:N.length<=50000:=by omega
 clear ha hb hlm hln hM hN hla hlb;go_enter Tryz.func204,Tryz.ntmps204;go_upto_region 1 with fail;obtain ⟨W1,hW⟩:=BO (w.alloc (.cells #[.slice none 0 0] 124));have X1:AO W1 w.heap.size 124 #[.slice none 0 0]:=by rw [hW];exact AO.made rfl _ _
 have HB1:=AA (show AP w W1 by rw [hW];exact bA (bR w) _);rw [<- hW];clear hW;have D9:=AA X1;go_wp2_with fail;refine (ZI.out _ HB1.out).mono ?_;rintro e w2 ⟨Ab,cb,rfl,hob,hb2⟩;have CG:=AA (D9.out.keep hb2);have HB2:=AA (bT HB1.out hb2);have HOb:=AA hob;clear hob hb2 D9 X1 HB1 ZI;go_wp2_with fail;refine (XW.out _ HB2.out).mono ?_;rintro e w3 ⟨Aa,ca,rfl,hoa,hb3⟩;have Ep:=AA (CG.out.keep hb3);have HB3:=AA (bT HB2.out hb3);have aBE:=AA hoa;have adk:=AA (HOb.out.keep hb3);obtain ⟨g4,hg4⟩:=BL w.heap.size;have hx3:=Ep.out.lt;clear hoa hb3 CG HB2 HOb XW;go_upto_block 0 with fail;go_wp2_with fail;have hg0:g4<w3.heap.size:=by omega
 rw [hg4] at Ep;have KI:=AA (fun q hq=>(adk.out.lt q hq).2);have Vs:=AA (fun q hq=>(aBE.out.lt q hq).2);go_loopw [1,16] (fun s i wr=>∃ (k j:Nat) (L:List Rn) (v:Value),k<=M.length/\i=.int .i64 k/\j<=N.length/\wV Ab N s j/\OO M N=L++OO (M.drop k) (N.drop j)/\L.length<=50002*k/\Xp wr w3.heap.size g4 L v/\Own wr w2.heap.size 121 2 G9 (.slice Aa M.length ca) M/\Own wr W1.heap.size 121 2 G9 (.slice Ab N.length cb) N/\AP w wr/\w3.heap.size<=wr.heap.size) (fun _ i _=>M.length-(intOf i).toNat)
 case atStart =>
  refine ⟨0,0,[],.slice none 0 0,BZ _,rfl,BZ _,?_,rfl,BZ _,⟨Ep.out,Own.nil _ _ _ _ _⟩,aBE.out,adk.out,HB3.out,DT _⟩;obtain ⟨A',c',he,h1,h2,-⟩:=adk.out.sl;injection he with q1 q2 q3;subst q1 q3;unfold maxLen at h2;exact ⟨Ab,cb,rfl,AB,AB,fun g hg _=>by rw [hg,lN]⟩
 case round =>
  obtain ⟨k,j,L,v,hk,rfl,hj,⟨A1,c1,rfl,hc1,hc2,hA1⟩,hdf,hLl,hbx,XY,hon,hb,hz⟩:=hrel;obtain ⟨wo,rfl⟩:=BO wr;have kZ:=AA hdf;have LP:=AA hbx;have RX:=AA XY;have II:=AA hon;have Hb:=AA hb;have HA1:=AA hA1;clear hdf hbx XY hon hb hA1;by_cases hlt:k<M.length
  ·obtain ⟨ga,V4,-,auM,-,hce⟩:=Own.jJ RX.out AB;subst V4;obtain ⟨c0,d0⟩:=hce k hlt;have o7:=AA (fun j' (h:NJ M[k].lo (N.drop j)=N.drop j')=>auJ hlt h);generalize M[k]=r at *;obtain ⟨V5,OW⟩:=r;simp only at c0 d0;have wW:(k:Int)<M.length:=by omega
   have wZ:0<=(k:Int):=by omega
   clear hce;go_upto_block 2 with fail;obtain ⟨W5,hW⟩:∃ W:World,W=wo.alloc (.cells #[.int .i64 V5,.int .i64 OW] 121):=⟨_,rfl⟩;obtain ⟨g7,Fg⟩:=BL wo.heap.size;have X7:AO W5 g7 121 #[.int .i64 V5,.int .i64 OW]:=by rw [hW];exact AO.made Fg.symm _ _
   have hA:AP wo W5:=by rw [hW];exact bA (bR wo) _
   have ajw:=AA (LP.out.keep hA);have ajx:=AA (RX.out.keep hA);have adl:=AA (II.out.keep hA);have Hb5:=AA (bT Hb.out hA);have hv7:=AA (show v.ownBlock≠some g7 from fun e=>by have:=(LP.out.own.lt g7 e).2;omega);have Iw:=AA X7;have RG:wo.heap.size<=W5.heap.size:=hA.size;rw [<- hW]
   try rw [Fg]
   clear hW hA c0 d0 auM LP RX II Hb X7;go_wp2_with fail;go_loopw [1] (fun s wr=>∃ j':Nat,j'<=N.length/\wV Ab N s j'/\NJ V5 (N.drop j)=NJ V5 (N.drop j')/\AP W5 wr) (fun s _=>sliceLen s)
   case atStart => exact ⟨j,hj,⟨A1,c1,rfl,hc1,hc2,HA1.out⟩,rfl,bR W5⟩
   case round =>
    clear HA1 hj;obtain ⟨j',hj',⟨A2,c2,rfl,hc3,hc4,hA2⟩,hdr,hb5⟩:=hrel;obtain ⟨wm,rfl⟩:=BO wr;have RH:=AA hdr;have HA2:=AA hA2;have RY:=AA hb5;clear hdr hA2 hb5;rcases rU j' N.length with hjt | hjt;obtain ⟨gb,V6,-,ajy,-,hce⟩:=Own.jJ (adl.out.keep RY.out) AB;have hA3:=HA2.out gb V6 hjt;subst hA3;obtain ⟨c0,d0⟩:=hce j' hjt;have DI:=AA (fun h=>drop_step (lo:=V5) hjt h);have LK:=AA (fun h=>asr (lo:=V5) hjt h);have hX:=Iw.out.keep RY.out;have hx7:=hX.lt;have aBu:0<N.length-j':=by omega
    generalize N[j']=n at *;obtain ⟨nlo,nhi⟩:=n;simp only at c0 d0;clear hce;obtain ⟨aBv,aBw,aBx,-,-⟩:=hX.BN;by_cases hle:nhi<=V5
    ·have HE:=AA (RH.out.trans (DI.out hle));have Qn:=AA (wV.next (A:=Ab) V6 hjt hc3 hc4);clear DI LK RH o7;go_upto_region 6 with fail;refine Cj (wm) (.run 12 0 0 (.done)) fun Bv QR Ae Ah hS=>?_
     iterate 4 refine Aj ?_
     iterate 7 refine Dh ?_
     refine Aj ?_;refine Ce ?_;clear hS Ah Ae;intro hB;go_wp2;go_roundw
     case rel => exact ⟨j'+1,AB,Qn.out,HE.out,bT RY.out hB⟩
     case measure => simp [sliceLen];omega
    have HE:=AA (RH.out.trans (LK.out hle));clear DI LK RH V6;go_upto_region 6 with fail;refine Cj (wm) (.run 12 0 0 (.done)) fun Bv QR Ae Ah hS=>?_
    iterate 4 refine Aj ?_
    iterate 7 refine Dh ?_
    refine Aj ?_;refine Ce ?_;clear hS Ah Ae;intro hB;go_wp2_with fail;obtain ⟨A2,hAg⟩:∃ A2:Option Addr,(some ⟨gb,j'*2,none⟩:Option Addr)=A2:=⟨_,rfl⟩;rw [hAg] at HA2 ⊢;clear hAg c0 d0 hX aBv aBw aBx;have wu:j'<=N.length:=hj'
    rotate_left
    have hX:=Iw.out.keep RY.out;have hx7:=hX.lt;have HE:=AA (show NJ V5 (N.drop j)=N.drop j' from RH.out.trans (auH hjt));have aBu:¬ 0<N.length-j':=by omega
    have kk9:¬ j'<N.length:=by omega
    clear RH
    try clear aBv aBw aBx
    obtain ⟨aBv,aBw,aBx,-,-⟩:=hX.BN;go_upto_region 6 with fail;refine Cj (wm) (.run 12 0 0 (.done)) fun Bv QR Ae Ah hS=>?_
    iterate 4 refine Aj ?_
    iterate 7 refine JU ?_
    refine Aj ?_;refine Ce ?_;clear hS Ah Ae;intro hB;go_wp2_with fail;clear hX aBv aBw aBx;have wu:j'<=N.length:=hj'
    all_goals
     have ajz:=AA ((ajw.out.keep RY.out).keep hB);have ak0:=AA ((ajx.out.keep RY.out).keep hB);have ak1:=AA ((adl.out.keep RY.out).keep hB);have Hb6:=AA (bT (bT Hb5.out RY.out) hB);have adn:=AA ((Iw.out.keep RY.out).keep hB);have jZ:w3.heap.size<=wm.drew.heap.size:=by
      have h1:=hB.size;have h2:=RY.out.size;omega
     have h76:=adn.out.lt;have HCu:=AA (o7.out j' HE.out);have ak2:g7≠g4:=by omega
     clear HE o7 ajw ajx adl Hb5 Iw hB RY aBu hjt hx7;generalize wm.drew=wn at *;go_loopw [8,9] (fun z i wr=>∃ (n:Nat) (lo:Int) (acc:List Rn) (v2:Value),j'+n<=N.length/\i=.int .i64 n/\z=.int .i64 lo/\Ot OW V5 (N.drop j')=acc++Ot OW lo (N.drop (j'+n))/\acc.length<=n/\Xp wr w3.heap.size g4 (L++acc) v2/\v2.ownBlock≠some g7/\AO wr g7 121 #[.int .i64 V5,.int .i64 OW]/\Own wr w2.heap.size 121 2 G9 (.slice (some ⟨ga,0,none⟩) M.length ca) M/\Own wr W1.heap.size 121 2 G9 (.slice Ab N.length cb) N/\AP w wr/\wn.heap.size<=wr.heap.size) (fun _ i _=>N.length+1-(intOf i).toNat)
     case atStart => exact ⟨0,V5,[],v,wu,rfl,rfl,rfl,BZ _,by rw [IQ];exact ajz.out,hv7.out,adn.out,ak0.out,ak1.out,Hb6.out,DT _⟩
     case round =>
      clear ajz ak0 ak1 Hb6 adn hv7;obtain ⟨n,lo,acc,v2,hn,rfl,rfl,hcu,hal,hbx,h27,X7,XY,hon,hb,hz⟩:=hrel;obtain ⟨wp,rfl⟩:=BO wr;have aBy:=AA hcu;have LP:=AA hbx;have H27:=AA h27;have Iw:=AA X7;have RX:=AA XY;have II:=AA hon;have Hb:=AA hb;have hzp:w3.heap.size<=wp.heap.size:=by omega
      have hll:(L++acc).length<=2600000000:=by
       rw [EC]
       have:50002*k<=50002*50000:=Nat.mul_le_mul_left _ AB
       omega
      clear hcu hbx h27 XY hon hb;rcases (show ((∃ hnt:j'+n<N.length,N[j'+n].lo<OW)\/∃ hnt:j'+n<N.length,¬ N[j'+n].lo<OW)\/N.length<=j'+n from by
       by_cases h1:j'+n<N.length
       ·by_cases h2:N[j'+n].lo<OW
        · exact .inl (.inl ⟨h1,h2⟩)
        · exact .inl (.inr ⟨h1,h2⟩)
       · exact .inr AB) with (⟨hnt,hle⟩ | ⟨hnt,hle⟩) | hnt
      · first
      | exfalso;omega
      | skip
        obtain ⟨gb,V6,-,ajy,-,hce⟩:=Own.jJ II.out AB;have hA3:=HA2.out gb V6 AB;subst hA3;have ku:=AA V6;clear V6;obtain ⟨c0,d0⟩:=hce (j'+n) hnt;have DI:=AA (fun h=>ajs (lo:=lo) (hi:=OW) hnt h);have LK:=AA (fun h=>ajt (lo:=lo) (hi:=OW) hnt h);have ke:(j'+n)*2=j'*2+n*2:=by omega
        rw [ke] at c0 d0;have kk5:(n:Int)<(N.length-j':Nat):=by omega
        have kk6:n<N.length-j':=by omega
        have kk7:0<=(n:Int):=by omega
        obtain ⟨m,hm⟩:=BL (N[j'+n]);rw [hm] at c0 d0 DI LK hle;have QV:=AA hm;clear hm;obtain ⟨nlo,nhi⟩:=m;simp only at c0 d0 hle;clear hce ke;obtain ⟨EK,EL,FN,-,-⟩:=X7.BN;have HE:=AA (DI.out hle);clear DI LK;go_upto_region 10 with fail;refine Cj (wp) (.run 14 0 0 (.done)) fun Bv QR Ae Ah hS=>?_
        iterate 5 refine Aj ?_
        iterate 8 refine Dh ?_
        refine Aj ?_;refine Ce ?_;clear hS Ah Ae;intro hB;go_wp2_with fail;have hx6:=LP.out.keep hB;have x9:=RX.out.keep hB;have xA:=II.out.keep hB;have xB:=Iw.out.keep hB;have hb6:=bT Hb.out hB;have auN:=hB.size;refine (Lj.out lo nlo w3.heap.size g4 (L++acc) v2 _ hx6 AB AB).mono ?_;rintro e w7 ⟨rfl,⟨v7,hx7,RZ⟩,l7,hb7⟩;obtain ⟨q1,q2,q3,q4⟩:=aju hx6 l7 RZ H27.out xB ak2 x9 Vs.out xA KI.out;have Hx7:=AA hx7;have auO:=AA q1;have HV7:=AA q2;have ado:=AA q3;have aBz:=AA q4;have Hb7:=AA (hb7 w hb6 AB AB);have hz7:=l7.size;clear hx6 x9 xA xB hb6 hx7 RZ l7 hb7 q2 q3 q4 c0 d0 X7 EK EL FN hB LP RX II Iw Hb;obtain ⟨gb',o8,-,ayr,-,ak3⟩:=Own.jJ aBz.out AB;rw [ku.out] at o8;injection o8 with o8;injection o8 with o8 _ _;subst o8;obtain ⟨-,d1⟩:=ak3 (j'+n) hnt;rw [QV.out,show (j'+n)*2=j'*2+n*2 by omega] at d1;simp only at d1;have HC7:=AA (show Ot OW V5 (N.drop j')=(acc++J9 lo nlo)++Ot OW nhi (N.drop (j'+(n+1))) by rw [aBy.out,HE.out,JR];rfl);have hl7:=ajv lo nlo;clear ak3 HE aBy ku;go_wp2;go_roundw
        case rel => exact ⟨n+1,nhi,acc++J9 lo nlo,v7,AB,BI,rfl,HC7.out,by rw [EC];omega,by rw [<- JR];exact Hx7.out,HV7.out,auO.out,ado.out,aBz.out,Hb7.out,AB⟩
        case measure => exact BK
      case' inl.inr =>
       first
      | exfalso;omega
      | skip
        obtain ⟨gb,V6,-,ajy,-,hce⟩:=Own.jJ II.out AB;have hA3:=HA2.out gb V6 AB;subst hA3;obtain ⟨c0,d0⟩:=hce (j'+n) hnt;have DI:=AA (fun h=>ajs (lo:=lo) (hi:=OW) hnt h);have LK:=AA (fun h=>ajt (lo:=lo) (hi:=OW) hnt h);have ke:(j'+n)*2=j'*2+n*2:=by omega
        rw [ke] at c0 d0;have kk5:(n:Int)<(N.length-j':Nat):=by omega
        have kk6:n<N.length-j':=by omega
        have kk7:0<=(n:Int):=by omega
        obtain ⟨m,hm⟩:=BL (N[j'+n]);rw [hm] at c0 d0 DI LK hle;have QV:=AA hm;clear hm;obtain ⟨nlo,nhi⟩:=m;simp only at c0 d0 hle;clear hce ke
        try clear EK EL FN
        obtain ⟨EK,EL,FN,-,-⟩:=X7.BN;have HE:=AA (aBy.out.trans (by rw [LK.out hle]));clear DI LK QV V6;go_upto_region 10 with fail;refine Cj (wp) (.run 14 0 0 (.done)) fun Bv QR Ae Ah hS=>?_
        iterate 5 refine Aj ?_
        iterate 8 refine Dh ?_
        refine Aj ?_;refine Ce ?_;clear hS Ah Ae;intro hB;go_wp2_with fail
      rotate_left
      have HE:=AA (aBy.out.trans (by rw [auI (lo:=lo) (hi:=OW) hnt]));have kk6:¬ n<N.length-j':=by omega
      have kk8:¬ (n:Int)<(N.length-j':Nat):=by omega
      try clear EK EL FN
      obtain ⟨EK,EL,FN,-,-⟩:=X7.BN;go_upto_region 10 with fail;refine Cj (wp) (.run 14 0 0 (.done)) fun Bv QR Ae Ah hS=>?_
      iterate 5 refine Aj ?_
      iterate 8 refine JU ?_
      refine Aj ?_;refine Ce ?_;clear hS Ah Ae;intro hB;go_wp2_with fail
      all_goals
       have hx6:=LP.out.keep hB;have x9:=RX.out.keep hB;have xA:=II.out.keep hB;have xB:=Iw.out.keep hB;have hb6:=bT Hb.out hB;have auN:=hB.size;refine (Lj.out lo OW w3.heap.size g4 (L++acc) v2 _ hx6 AB AB).mono ?_;rintro e w7 ⟨rfl,⟨v7,hx7,RZ⟩,l7,hb7⟩;obtain ⟨-,-,q3,q4⟩:=aju hx6 l7 RZ H27.out xB ak2 x9 Vs.out xA KI.out;have Hx7:=AA hx7;have ado:=AA q3;have aBz:=AA q4;have Hb7:=AA (hb7 w hb6 AB AB);have hz7:=l7.size;have auP:=AA (show OO M N=(L++acc++J9 lo OW)++OO (M.drop (k+1)) (N.drop j') by
        have e1:=HCu.out
        try simp only at e1
        rw [kZ.out,e1,HE.out];simp only [JR])
       have hl7:=ajv lo OW;clear hx6 x9 xA xB hb6 hx7 RZ l7 hb7 q3 q4 X7 hB LP RX II Iw Hb kZ HCu HE;go_wp2;go_roundw
       case rel => exact ⟨k+1,j',L++acc++J9 lo OW,v7,AB,BI,wu,⟨_,c2,rfl,hc3,hc4,HA2.out⟩,auP.out,by rw [EC,EC];omega,Hx7.out,ado.out,aBz.out,Hb7.out,AB⟩
       case measure => exact BK
  ·obtain rfl:k=M.length:=by omega
   have hd:=kZ.out;rw [aax] at hd;have he:OO M N=L:=by rw [hd];simp [OO]
   clear hd;obtain ⟨A,c,rfl,-⟩:=Own.sl LP.out.own;have X4:=LP.out.box;have HE:=AA he;clear he;obtain ⟨Bh,Bl,Dl⟩:=X4.Fa;go_wp2_with fail;refine adw (g:=g4) (v:=.slice A L.length c) rfl auK rfl rfl (AO.aAr X4) ?_;rw [HE.out];refine ⟨A,c,rfl,?_,bS (p:=⟨g4,0,none⟩) Hb.out (show w.heap.size<=g4 by omega) _⟩;have ho:=LP.out.own.far (p:=⟨g4,0,none⟩) (Own.Dz LP.out.own LP.out.box BG) (.slice A L.length c);exact ho.Du AB
def OX (B g:Nat) (w0:World):World->Prop:=fun w=>Below B w0 w/\w.heap[g]? = w0.heap[g]?
section
variable {B g:Nat} {W w w':World}
theorem ak4 (h:OX B g W w):(∀ b o,b<B->w.cell? ⟨b,o,none⟩=W.cell? ⟨b,o,none⟩)/\(∀ o,w.cell? ⟨g,o,none⟩=W.cell? ⟨g,o,none⟩) :=
 ⟨(aAV h.1).1,fun o=>by simp only [World.cell?,h.2]⟩
theorem kR (W:World):OX B g W W.drew:=⟨Below.drew (Below.refl _ _),rfl⟩
theorem kA (h:OX B g W w) (hB:B<=W.heap.size) (hg:g<W.heap.size) (o:Obj):OX B g W (w.alloc o) :=
 ⟨h.1.alloc (Dn hB h.1.size) o,by rw [Below.heap_alloc w o g (L9 hg h.1.size)];exact h.2⟩
theorem kC (h:OX B g W w) (k:AP w w') (hB:B<=W.heap.size) (hg:g<W.heap.size):OX B g W w' :=
 ⟨h.1.trans (k.mono (Dn hB h.1.size)),(k.block g (L9 hg h.1.size)).trans h.2⟩
theorem kG (h:OX B g W w) {row:Option Nat} (k:w.grownBy w' row) (hr:∀ q,row=some q->B<=q) (hn:some g≠row) (hB:B<=W.heap.size) (hg:g<W.heap.size):OX B g W w' :=
 ⟨h.1.grown k (Dn hB h.1.size) hr,(k.block g (L9 hg h.1.size) hn).trans h.2⟩
theorem kS (h:OX B g W w) {p:Addr} (hB:B<=p.block) (hn:g≠p.block) (u:Value):OX B g W (w.setCell p u) :=
 ⟨h.1.setCell hB u,(Below.heap_setCell w p u g hn).trans h.2⟩
end
section
variable {P:Program} {ops:Array Oper} {Q:Exit->Act->World->Prop}
theorem oC {l:List Oper} {i m:Nat} {oi:Oper} {r:Hy} {a:Act} {w W:World} {B g:Nat} {v:Value} (H:PLift (ops=l.toArray)) (hi:l[i]? = some oi) (hS:OX B g W w) (hg:oi.guard=none)
  (hy:∀ wq:World,(∀ b o,b<B->wq.cell? ⟨b,o,none⟩=W.cell? ⟨b,o,none⟩)->(∀ o,wq.cell? ⟨g,o,none⟩=W.cell? ⟨g,o,none⟩)->(execOp a.eval oi).run P wq=.ok (.value v) wq) (h:GR P ops (NoPanic Q) (OX B g W) r (a.put oi.dst v) w):GR P ops (NoPanic Q) (OX B g W) (.take i m r) a w :=
 uS H hi hS hg (fun wq hq=>hy wq (ak4 hq).1 (ak4 hq).2) h
end
