import Derived.Test.YtpempeioeiaijaaGreatJ24
import Derived.Test.YtpempeioeiaijaaGreatJ26
set_option linter.unusedSimpArgs false
set_option linter.unusedVariables false
set_option maxRecDepth 100000
set_option maxHeartbeats 8000000
namespace Go.Proofs.YtpempeioeiaijaaGreat
open Go.RowKit Tryz
def pl0:Pl:=⟨[],[],[]⟩
theorem D6.blocks {w:World} {vn va vf:Value} {p:Pl} {al:List (Ar×Value)} (hp:p.AQ=al.map (·.1)) (hn:lV w vn p.nodes) (ha:Sl w va al.length (al.flatMap zN)) (hv:eU w al) (hf:Ints w vf p.faces):D6 w (.agg #[vn,va,vf]) p :=
 ⟨vn,va,vf,al,rfl,hp,hn,⟨ha,hv⟩,hf⟩
theorem D6.zero (w:World):D6 w (.agg #[.slice none 0 0,.slice none 0 0,.slice none 0 0]) pl0 :=
 D6.blocks (al:=[]) rfl (Sl.nil w) (Sl.nil w) (fun k hk=>by simp at hk) (Sl.nil w)
theorem Own.axI {α:Type} {w:World} {g n:Nat} {e:TypeId} {cs:Array Value} {base size:Nat} {f:α->List Value} {l:List α} (h:AO w g e cs) (hb:base<=g) (hn:n=l.length) (hl:(l.flatMap f).length=l.length*size) (hx:cs.toList=l.flatMap f) (hm:n<=maxLen):Own w base e size f (.slice (some ⟨g,0,none⟩) n n) l:=by
 subst hn;unfold Own;have hs:cs.size=l.length*size:=by rw [<- hl,<- hx];simp
 exact ⟨hl,.inr ⟨g,l.length,cs,rfl,hb,h,Cj _,hm,hs,by rw [hx,<- hl];exact I5⟩⟩
def anA (w:World) (p:Pl) (e:Ending) (w':World):Prop:=∃ v q,e=.returned (.tuple #[v,.int .i64 (Om p)])/\AU w w'/\D6 w' v q/\q=(if Om p=0 then J6 p else pl0)
theorem xX.skip {G:Nat->Prop} {w W:World} {B:Nat} {v:Value} {L:List AD} (h:xX w B v L) (hG:∀ g,G g->g<B) (hs:Skip G w W):xX W B v L :=
 ⟨h.own.skip hG hs,fun x hx=>(h.out x hx).skip hG hs,fun x hx=>(h.inn x hx).skip hG hs,fun x hx c hc=>(h.KT x hx c hc).skip hG hs,fun x hx=>(h.EP x hx).skip hG hs⟩
theorem Skip.grow {G:Nat->Prop} {w0 w W:World} {row:Option Nat} (h:Skip G w0 w) (hg:w.grownBy W row) (hr:∀ k,row=some k->G k\/w0.heap.size<=k):Skip G w0 W :=
 ⟨EG h.1 hg.size,fun k hk hn=>(hg.block k (QS hk h.1) (fun e=>by rcases hr k e.symm with g | g;exact hn g;omega)).trans (h.2 k hk hn)⟩
theorem FP.marked {w w':World} {B:Nat} {vn va vf:Value} {ns:List Nd} {fs:List Int} {F F':Int->Int} {ol:List (Ar×SV)} (h:FP w B vn va vf ⟨ns,(Gs F ol).map (·.1),fs⟩ (Gs F ol)) (ho:Own w' B 50 6 Ja va (Gs F' ol)) (hg:w.grownBy w' va.ownBlock):FP w' B vn va vf ⟨ns,(Gs F' ol).map (·.1),fs⟩ (Gs F' ol) :=
 ⟨Own.grown h.P6 hg (Own.apart h.P6 h.Ec Aw),ho,fun y hy=>by
  obtain ⟨x,hx,rfl⟩:=Ez.1 hy;have hv:=h.MK (Ny F x.1,x.2) (FZ (f:=fun x:Ar×SV=>(Ny F x.1,x.2)) hx);exact Own.grown hv hg (Own.apart hv h.Ec Aw),rfl,Own.grown h.KI hg (Own.apart h.KI h.Ec Aw)⟩
theorem axJ (f:Int->Int) (v:Int) (cs:List (List Int)) (c:List Int):GV (GV f v cs) v [c]=GV f v (cs++[c]):=by
 funext d
 unfold GV;simp only [acf,qY,List.any_nil,Bool.or_false,Ir];by_cases e:decide (d∈c)=true
 · rw [AZ e,AZ (.inr e)]
 ·rw [AX e];by_cases e2:(cs.any fun c=>decide (d∈c))=true
  · rw [AZ e2,AZ (.inl e2)]
  · rw [AX e2,AX (by rintro (g | g);exact e2 g;exact e g)]
theorem axK (v:Value) (p:Pl) (w:World) (h:D6 w v p) (hm:Mod p):Calls prog 44 #[v] w (anA w p):=by
 have hn:=hm.nodes;have ha:=hm.AQ;have hvl:=hm.MK;obtain ⟨_,_,_,al,rfl,hpa,hN,⟨⟨Aa,ca,rfl,ha1,ha2,FT⟩,hV⟩,⟨Af,cf,rfl,-⟩⟩:=h;obtain ⟨bl,rfl⟩:=hV.sv;have hres:p.AQ=bl.map (·.1):=by rw [hpa,IW];rfl
 have hbl:bl.length<=100000:=by rw [hres,CV] at ha;exact ha
 rw [CV] at ha1;rw [aau] at FT;have abe:=AB (show ∀ k (hk:k<bl.length),CZ w (.slice bl[k].2.a bl[k].2.n bl[k].2.c) bl[k].1.via from fun k hk=>by
  have:=hV k Uc
  simpa [jB] using this)
 obtain ⟨iP,Ij,HN,Fe,YU⟩:=I4 (show ∀ k (hk:k<bl.length),bl[k].1.via.length<=100000 from fun k hk=>hvl _ (by rw [hres];exact FZ (BO hk))) (show Row w Aa (bl.flatMap Ja) from FT) (show Sl w _ p.nodes.length (p.nodes.flatMap PD) from hN) (fun u W (hu:D6 W u (C9 p))=>adS u (C9 p) W hu) (fun u W (hu:D6 W u (C9 p)) (hv:Valid (C9 p))=>av3 u (C9 p) W hu hv);obtain ⟨An,cn,rfl,hn1,hn2,-⟩:=hN;have wO:=AB hres;rw [CV] at *;unfold maxLen at ha2 hn2;clear hV FT hpa hres hvl hm;generalize p.faces.length=nf at *;go_enter func44,ntmps44;go_upto_region 2 with
  (at_builtin
   refine FK _ rfl (.tmp 11) (.tmp 13) _ rfl (base:=w.heap.size+1+1) sV sW sZ rfl (Own.axI (l:=[]) (AO.made Ah _ _) (Cj _) rfl rfl rfl (D7 AA)) rfl (l2:=p.nodes) (Sl.mono HN.1 (bA (bA (bA (bR w) _) _) _)) Ua Ua Ah ?_;intro v5 w5 Dj hg5 G5;replace Dj:Own w5 (w.heap.size+1+1) 47 3 PD v5 p.nodes:=Dj;obtain ⟨Gp,Gq,rfl,-⟩:=Own.sl Dj;obtain ⟨abK,iU,Ce,Ep⟩:=DW (show AO w5 w.heap.size 34 #[.slice An p.nodes.length cn,.slice Aa bl.length ca,.slice Af nf cf] from AO.grown (AO.alloc (AO.alloc (AO.made rfl _ _) _) _) hg5 (fun e=>by have h0:w.heap.size=w.heap.size+1+1:=DV e;omega)) (show AO w5 (w.heap.size+1) 34 #[.slice none 0 0,.slice none 0 0,.slice none 0 0] from AO.grown (AO.alloc (AO.made Ah _ _) _) hg5 (fun e=>by have h0:w.heap.size+1=w.heap.size+1+1:=DV e;omega)) (show AU w w5 from bG (bA (bA (bA (bR w) _) _) _) hg5 (fun g hk=>by have h0:w.heap.size+1+1=g:=DV hk;omega)) (Dj.EM (b':=w.heap.size) AA);clear Dj hg5 G5)
 obtain ⟨g2,hg2⟩:∃ g,w.heap.size+1=g:=⟨_,rfl⟩;obtain ⟨g4,hg4⟩:∃ g,w5.heap.size=g:=⟨_,rfl⟩;obtain ⟨W6,hW⟩:∃ W:World,W=w5.alloc (.cells #[.slice Gp p.nodes.length Gq,.slice none 0 0,.slice none 0 0] 34):=⟨_,rfl⟩;have xI:AU w5 W6:=by rw [hW];exact bA (bR w5) _
 obtain ⟨anB,anC,anD,Ew,UH⟩:=I4 (show AO W6 g4 34 #[.slice Gp p.nodes.length Gq,.slice none 0 0,.slice none 0 0] by rw [hW,<- hg4];exact AO.made rfl _ _) (abK.1.keep xI) (show AO W6 g2 34 #[.slice none 0 0,.slice none 0 0,.slice none 0 0] by rw [<- hg2];exact iU.1.keep xI) (bT Ce.1 xI) (show FP W6 w.heap.size (.slice Gp p.nodes.length Gq) (.slice none 0 0) (.slice none 0 0) ⟨p.nodes,[],[]⟩ [] from ⟨Ep.1.keep xI,Own.nil _ _ _ _ _,(fun x hx=>by cases hx),rfl,Own.nil _ _ _ _ _⟩);have amm:g2<g4:=by rw [<- hg4,<- hg2];exact iU.1.lt
 have hgw:w.heap.size<g2:=AA
 rw [<- hW]
 try rw [hg4]
 try rw [hg2]
 clear hW hg2 hg4 xI abK iU Ce Ep;go_wp2_with fail;go_loopw [5] (fun u wr=>∃ (k:Nat) (ol:List (Ar×SV)) (A:Option Addr) (c:Nat),k<=bl.length/\u=.int .i64 k/\ol.length=k/\FP wr w.heap.size (.slice Gp p.nodes.length Gq) (.slice A k c) (.slice none 0 0) ⟨p.nodes,(bl.take k).map (fun x=>P5 x.1),[]⟩ ol/\AO wr g4 34 #[.slice Gp p.nodes.length Gq,.slice A k c,.slice none 0 0]/\AO wr g2 34 #[.slice none 0 0,.slice none 0 0,.slice none 0 0]/\AO wr w.heap.size 34 #[.slice An p.nodes.length cn,.slice Aa bl.length ca,.slice Af nf cf]/\AU w wr) (fun u _=>bl.length-(intOf u).toNat)
 case atStart => exact ⟨0,[],none,0,BX _,rfl,rfl,UH.1,anB.1,anD.1,anC.1,Ew.1⟩
 case round =>
  clear UH anB anD anC Ew;obtain ⟨k,ol,A,c,hk,rfl,hol,hpo,X4,X2,X1,hb⟩:=hrel;obtain ⟨wo,rfl⟩:=BR wr;obtain ⟨HP,DL,DC,Dt,HB,Oz⟩:=Jz hpo X4 X2 X1 hb hol;have hl4:=X4.lt;have hl2:=X2.lt;have hwo:=hb.size;clear hpo hb X2 X4;by_cases hlt:k<bl.length
  ·obtain ⟨b,o,hAb,hlb,c0,c1,c2,c3,c4,c5⟩:=(Row.mono Ij.1 HB.1).at6 hlt;subst hAb;have hv:=abe.1 k hlt;have hvl:=iP.1 k hlt;have htk:bl.take (k+1)=bl.take k++[bl[k]]:=Em hlt;generalize bl[k]=x at *;obtain ⟨⟨id,fr,dst,via,lf,rt⟩,⟨va,vn,vc⟩⟩:=x;simp only at c0 c1 c2 c3 c4 c5 hv hvl htk;have HVv:=AB hv;obtain ⟨Av,cv,hev,-⟩:=hv;injection hev with y1 y2 y3;subst y1 y2 y3;have Ei:=AB htk;clear htk;have kk1:(k:Int)<bl.length:=AA
   have kk2:0<=(k:Int):=AA
   obtain ⟨BJ,BK,BL,BQ,-⟩:=X1.Az;go_upto_region 6 with fail;obtain ⟨g6,FN⟩:∃ g,wo.heap.size=g:=⟨_,rfl⟩;obtain ⟨W2,hW⟩:∃ W:World,W=wo.alloc (.cells #[.int .i64 id,.int .i64 fr,.int .i64 dst,.slice va via.length vc,.int .i64 lf,.int .i64 rt] 50):=⟨_,rfl⟩;have hA:AU wo W2:=by rw [hW];exact bA (bR wo) _
   have X6:AO W2 g6 50 #[.int .i64 id,.int .i64 fr,.int .i64 dst,.slice va via.length vc,.int .i64 lf,.int .i64 rt]:=by rw [hW];exact AO.made FN.symm _ _
   obtain ⟨HA,HB2,JM,HZ2⟩:=DW hA (bT HB.1 hA) X6 (show W2.heap.size=g6+1 by rw [hW,<- FN];simp);rw [<- hW]
   try rw [FN]
   clear hW hA c0 c1 c2 c3 c4 c5 hlb X1 BJ BK BL BQ;obtain ⟨FU,FV,FW,QZ,aF,ZV,ZW,-⟩:=X6.Iy;go_upto_region 7 with
    (at_builtin
     refine FK _ rfl (.tmp 28) (.tmp 30) _ rfl (base:=W2.heap.size) JI I7 JD rfl (Own.lit _ _ _ _ DK [] _ 0 _ Ah rfl Ah (D7 AA) rfl rfl) rfl (l2:=via) (HVv.1.mono (bA HB2.1 _)) Ua Ua Ah ?_;intro v8 w8 QD Pg iG;replace QD:Own w8 W2.heap.size 42 2 DK v8 via:=QD;obtain ⟨A8,c8,rfl,-⟩:=Own.sl QD;have hb8:AU W2 w8:=bG (bA (bR _) _) Pg (fun g hk=>by have:W2.heap.size=g:=DV hk;omega);have X68:=JM.1.keep hb8;obtain ⟨anE,Hb8,KH⟩:=CG X68 hb8 QD;clear QD Pg iG hb8 X6 FU FV FW QZ aF ZV ZW;obtain ⟨axL,axM,axN,axO,axP,axQ,axR,axS,axT,axU,axV,axW,axX⟩:=X68.Iy
     )
   go_upto_region 8 with fail;obtain ⟨W7,hW⟩:∃ W:World,W=((w8.setCell ⟨g6,3,none⟩ (.slice A8 via.length c8)).setCell ⟨g6,4,none⟩ (.int .i64 0)).setCell ⟨g6,5,none⟩ (.int .i64 0):=⟨_,rfl⟩;have X67:AO W7 g6 50 #[.int .i64 id,.int .i64 fr,.int .i64 dst,.slice A8 via.length c8,.int .i64 0,.int .i64 0]:=by
    rw [hW];have h:=((anE.1.EH 3 (.slice A8 via.length c8)).EH 4 (.int .i64 0)).EH 5 (.int .i64 0);simpa using h
   have aby:(Value.slice A8 via.length c8).ownBlock≠some g6:=fun e=>by have:=(KH.1.lt _ e).1;have:=HZ2.1;omega
   have NU:=AB (show Own W7 W2.heap.size 42 2 DK (.slice A8 via.length c8) via by rw [hW];exact ((KH.1.far (p:=⟨g6,3,none⟩) aby _).far (p:=⟨g6,4,none⟩) aby _).far (p:=⟨g6,5,none⟩) aby _);have Uy:AU wo W7:=by
    rw [hW];exact bS (p:=⟨g6,5,none⟩) (bS (p:=⟨g6,4,none⟩) (bS (p:=⟨g6,3,none⟩) (bT HA.1 Hb8.1) (by show wo.heap.size<=g6;omega) _) (by show wo.heap.size<=g6;omega) _) (by show wo.heap.size<=g6;omega) _
   obtain ⟨UJ,agW,anF,anG,Gx⟩:=I4 (HP.1.keep Uy) (DL.1.keep Uy) (DC.1.keep Uy) (Dt.1.keep Uy) (bT HB.1 Uy);have hw2:w.heap.size<=W2.heap.size:=HB2.1.size;have hz7:w.heap.size<=W7.heap.size:=Gx.1.size;rw [<- hW];clear hW Uy aby KH Hb8 anE JM HA HB2 HP DL DC Dt HB X68 axL axM axN axO axP axQ axR axS axT axU axV axW axX FN HZ2;have X47:=agW.1;have ED:=AB (fun (y:Ar×SV)=>show (ol++[y]).length=k+1 from by rw [Es,Oz.1];rfl);have ag2:ol.length<=100000:=AA
   have n4:=Own.EX UJ.1.Ec agW.1 Aw;have n2:=Own.EX UJ.1.Ec anF.1 Aw;have n1:=Own.EX UJ.1.Ec anG.1 Aw;have agX:g2≠g4:=AA
   have axY:w.heap.size≠g4:=AA
   obtain ⟨axZ,axa,axb,axC,axD,ayR,ayS,-⟩:=X67.Iy;obtain ⟨ayT,ayU,ayV,ayW,-⟩:=X47.Az;go_upto_region 4 with
    (at_builtin
     refine FK _ rfl (.tmp 36) (.tmp 38) _ rfl (base:=w.heap.size) Uw Ql Vw rfl (Own.alloc UJ.1.Ec _) rfl (l2:=[((⟨id,fr,dst,via,0,0⟩:Ar),(⟨A8,via.length,c8⟩:SV))]) (Sl.lit (n:=1) (AO.made rfl _ _) rfl (D7 AA)) Dl Dl DR ?_;intro v10 w10 Vb JL jM;obtain ⟨Jf,c10,aX,-⟩:=Own.GU Vb;rw [ED.1] at aX;subst aX;have UL:=AO.grown (agW.1.alloc _) JL (fun e=>n4 e.symm);have hmr:=FP.more (UJ.1.keep (bA (bR _) _)) Vb JL (Own.alloc (NU.1.EM hw2) _);obtain ⟨Lh,OZ,pG,ayX,Fv⟩:=I4 (hmr.far UL Aw Aw Aw Aw 1 (.slice Jf (k+1) c10)) (UL.EH 1 (.slice Jf (k+1) c10)) ((AO.grown (anF.1.alloc _) JL (fun e=>n2 e.symm)).far (p:=⟨g4,1,none⟩) agX (.slice Jf (k+1) c10)) ((AO.grown (anG.1.alloc _) JL (fun e=>n1 e.symm)).far (p:=⟨g4,1,none⟩) axY (.slice Jf (k+1) c10)) (bS (p:=⟨g4,1,none⟩) (bG (bA Gx.1 _) JL (fun q hq=>(UJ.1.Ec.lt q hq).1)) (by show w.heap.size<=g4;omega) (.slice Jf (k+1) c10));clear hmr Vb JL jM X47 ayT ayU ayV ayW X67 axZ axa axb axC axD ayR ayS;obtain ⟨agY,agZ,aga,ag4,ag5,ag6,ag7⟩:=UL.Az
     )
   go_wp2;go_roundw
   case rel => exact ⟨k+1,_,Jf,c10,AA,BG,ED.1 _,by rw [show (bl.take (k+1)).map (fun x=>P5 x.1)=(bl.take k).map (fun x=>P5 x.1)++[(⟨id,fr,dst,via,0,0⟩:Ar)] by rw [Ei.1,FH];rfl];exact Lh.1,Rz,pG.1,ayX.1,Fv.1⟩
   case measure => exact BH
  ·obtain rfl:k=bl.length:=AA
   have hpe:(⟨p.nodes,(bl.take bl.length).map (fun x=>P5 x.1),[]⟩:Pl)=C9 p:=by
    unfold C9;rw [I5,wO.1,IW];rfl
   have hpo:=HP.1;rw [hpe] at hpo;obtain ⟨q,hq⟩:=BI (C9 p);rw [hq] at hpo Fe YU;have HQ:=AB hq;have HP:=AB hpo;have YT:p.nodes=q.nodes:=by rw [<- hq];rfl
   have zS:q.faces=[]:=by rw [<- hq];rfl
   have hqa:q.AQ.length=bl.length:=by rw [<- hq];unfold C9;rw [CV,wO.1,CV]
   have HQn:=AB YT;have HQf:=AB zS;have X4:=DL.1;have hpv:=HP.1.Yr;have HPv:=AB hpv;clear hpe hpo hq YT zS hqa hpv Ij abe iP HN;obtain ⟨Bg,CO,CU,ES,-⟩:=X4.Az
   try clear BJ BK BL BQ
   obtain ⟨BJ,BK,BL,BQ,-⟩:=X1.Az;go_upto_region 9 with fail;go_wp2_with fail;refine (Fe.1 _ _ HPv.1).mono ?_;rintro e w3 ⟨rfl,hb3⟩;obtain ⟨HB3,OH,abz,ac0⟩:=DW (bT HB.1 hb3) (HP.1.keep hb3) (DL.1.keep hb3) (DC.1.keep hb3);clear hb3 X4 Bg CO CU ES X1 BJ BK BL BQ HB HP HPv DL DC Dt;by_cases hz:Gn q=0
   case neg =>
    have HL:=AB (show Om p=Gn q by unfold Om;rw [HQ.1,AZ hz]);generalize Gn q=z at *;have hzb:(z != 0)=true:=by simpa using hz
    have HZn:=AB hz;clear hz;have X2:=ac0.1;obtain ⟨Bh,Bq,Bv,CS,Y9,ZY,iQ⟩:=X2.Az;go_wp2_with fail;exact Iz (g:=g2) (cs:=#[.slice none 0 0,.slice none 0 0,.slice none 0 0]) rfl Na rfl rfl (AO.LG ac0.1) ⟨_,pl0,by rw [HL.1];rfl,bS (p:=⟨g2,2,none⟩) (bS (p:=⟨g2,1,none⟩) (bS (p:=⟨g2,0,none⟩) HB3.1 ZG _) ZG _) ZG _,D6.zero _,by rw [HL.1,AX HZn.1]⟩
   have HV:=AB ((fH _).1 hz);have xH:=AB (show Om p=if 64<(Ci q).length then 3 else 0 by unfold Om;rw [HQ.1,AX (by simpa using hz)]);rw [hz];clear hz;have X4:=abz.1
   try clear Bg CO CU ES
   obtain ⟨Bg,CO,CU,ES,-⟩:=X4.Az;go_upto_region 12 with fail;go_wp2_with fail;refine (YU.1 _ _ OH.1.Yr HV.1).mono ?_;rintro e w4 ⟨AL,cL,L,rfl,hb4,haw,hdv,-⟩;obtain ⟨HB4,XA,xu,iT⟩:=DW (bT HB3.1 hb4) (OH.1.keep hb4) (abz.1.keep hb4) (ac0.1.keep hb4);obtain ⟨O,hO⟩:=BI (sortK (Ci q));rw [hO] at hdv;have hOp:O.Perm (Ci q):=by rw [<- hO];exact (dK (Ci q)).1
   have jI:O.length=(Ci q).length:=hOp.length_eq;have hll:L.length=O.length+1:=hdv.len;have azW:O.length<=512:=by rw [jI];exact EG (SC _ _) HV.1.Yu
   obtain ⟨HO,HOp,QB,Jj,HA,HD⟩:=Jz hO hOp jI hll haw hdv;have hBD:=hb4.size;obtain ⟨BD,hbd⟩:∃ B,w3.heap.size=B:=⟨_,rfl⟩;rw [hbd] at haw hBD;have xJ:=AB haw;have ayY:g4<BD:=by rw [<- hbd];exact abz.1.lt
   have ayZ:=AB (show ∀ k,(Value.slice A bl.length c).ownBlock=some k->k<BD from fun k hk=>by rw [<- hbd];exact (OH.1.Ec.lt k hk).2);have kl1:=EL ((L.length:Int)-1);clear hO hOp jI hb4 haw hdv YU Fe HA X4 Bg CO CU ES HB3 OH abz ac0 hbd;by_cases h64:64<O.length
   ·have HL:=AB (show Om p=3 by rw [xH.1,AZ (by rw [<- QB.1];exact h64)]);have k64:(64:Int)<(L.length:Int)-1:=AA
    have X2:=iT.1;clear h64
    try clear Bh Bq Bv CS
    try clear Y9 ZY iQ
    obtain ⟨Bh,Bq,Bv,CS,Y9,ZY,iQ⟩:=X2.Az;go_wp2_with fail;exact Iz (g:=g2) (cs:=#[.slice none 0 0,.slice none 0 0,.slice none 0 0]) rfl Na rfl rfl (AO.LG iT.1) ⟨_,pl0,by rw [HL.1];rfl,bS (p:=⟨g2,2,none⟩) (bS (p:=⟨g2,1,none⟩) (bS (p:=⟨g2,0,none⟩) HB4.1 ZG _) ZG _) ZG _,D6.zero _,by rw [HL.1,AX Aw]⟩
   have HL:=AB (show Om p=0 by rw [xH.1,AX (by rw [<- QB.1];exact h64)]);have k64:¬ (64:Int)<(L.length:Int)-1:=AA
   have azX:O.length<=64:=AA
   clear h64;obtain ⟨gL,hgA,av4,-⟩:=Own.Ol xJ.1.own AA;subst hgA;have xk:=AB (fun i (hi:i<L.length)=>show (Qm L[i]).map (·.1)=Je q O i from by
    have hdv:=HD.1;unfold Qm Je Kr mQ;rw [Ey,hdv.inn i hi];congr 1;by_cases e:i=0
    · subst e;exact hdv.alk hi
    ·show L[i].out=_
     rw [hdv.pU hi AA,VT AA AA];rfl)
   have h0:Gs (Iq q O 0) ol=ol:=by
    unfold Gs;refine (kV (fun x hx=>?_)).trans (List.map_id ol);have hx1:x.1∈q.AQ:=by rw [<- XA.1.eq];exact FZ hx
    rw [<- HQ.1] at hx1;obtain ⟨a,-,e⟩:=Ez.1 hx1;obtain ⟨x1,x2⟩:=x;simp only at e;subst e;rfl
   have jP:=AB (show FP w4 w.heap.size (.slice Gp p.nodes.length Gq) (.slice A bl.length c) (.slice none 0 0) ⟨q.nodes,(Gs (Iq q O 0) ol).map (·.1),Nw 0⟩ (Gs (Iq q O 0) ol) from by
    rw [h0,XA.1.eq,show Nw 0=q.faces by rw [HQf.1];rfl];exact XA.1)
   have HEq:=AB XA.1.eq;have jD:=AB (fun i c (hc:c∈Je q O i) d (hd:d∈c)=>HV.1.QC (HV.1.afB (fun X hX=>HOp.1.subset hX) hc hd));have HNp:=AB (fun i (hi:i<O.length)=>show 0<ol.length from by
    have hX:O[i]∈Ci q:=HOp.1.subset (BO hi);have hc:=(Np.1 hX).1;obtain ⟨d,hd⟩:=List.exists_mem_of_length_pos (kN.2 (HV.1.WY hc));obtain ⟨a,ha,-⟩:=J9.1 ((HV.1.Ic hc).2 d hd);rw [<- HEq.1] at ha;obtain ⟨x,hx,-⟩:=Ez.1 ha;exact acg hx)
   have ML:=AB (fun i c (hc:c∈Je q O i)=>show c.length<=512 from by
    have hc2:c=[]\/c∈Cb q:=by
     unfold Je Kr at hc;rcases FI.1 hc with e | hc
     ·rw [e];unfold Lj;split
      · exact .inl rfl
      · cases e9:O[i-1]? with
       | none=>exact .inl rfl
       | some Y=>exact .inr (Np.1 (HOp.1.subset (kQ e9))).1
     · exact .inr (Xg.1 (QN.1 hc).1).1
    rcases hc2 with e | hc
    · rw [e];simp
    · exact EG (Vk (HV.1.Ic hc).1 (HV.1.Ic hc).2) HV.1.wQ)
   clear h0;go_upto_block 2 with fail;go_wp2_with fail;go_loopw [9] (fun u wr=>∃ (i:Nat) (Ag:Option Addr) (cg:Nat),i<=O.length/\u=.int .i64 ((i:Int)+1)/\FP wr w.heap.size (.slice Gp p.nodes.length Gq) (.slice A bl.length c) (.slice Ag i cg) ⟨q.nodes,(Gs (Iq q O i) ol).map (·.1),Nw i⟩ (Gs (Iq q O i) ol)/\AO wr g4 34 #[.slice Gp p.nodes.length Gq,.slice A bl.length c,.slice Ag i cg]/\AO wr g2 34 #[.slice none 0 0,.slice none 0 0,.slice none 0 0]/\AU w wr/\Skip (· < BD) w4 wr/\(∀ k,(Value.slice Ag i cg).ownBlock=some k->w4.heap.size<=k)) (fun u _=>O.length+1-(intOf u).toNat)
   case atStart => exact ⟨0,none,0,BX _,rfl,jP.1,xu.1,iT.1,HB4.1,Skip.refl,fun k hk=>by cases hk⟩
   case round =>
    clear jP xu iT HB4 XA;obtain ⟨i,Ag,cg,hi,rfl,hpo,X4,X2,hb,hsk,hfg⟩:=hrel;obtain ⟨wi,rfl⟩:=BR wr;obtain ⟨HP,DL,DC,HB,VW,oz⟩:=Jz hpo X4 X2 hb hsk hfg;have aN:=hsk.1;have hzw:=hb.size;clear hpo X2 hb hsk hfg;by_cases hlt:i<O.length
    ·have hi1:i+1<L.length:=by have:=Jj.1;omega
     have hcy:=xk.1 (i+1) hi1;have hnp:=HNp.1 i hlt;have hfl:=afG i;have aT:=AB (alA i);have ED:=AB (show (Nw i++[(i:Int)+1]).length=i+1 by rw [Es,hfl];rfl);have abf:(Nw i).length<=64:=AA
     have azY:=X4.lt;have n4:=Own.EX HP.1.KI DL.1 Aw;have n2:=Own.EX HP.1.KI DC.1 Aw;have agX:g2≠g4:=AA
     have k1:(i:Int)+1<(L.length:Int):=AA
     have k2:0<=(i:Int)+1:=AA
     have QH:=AB hcy;clear hcy hfl
     try clear Bg CO CU ES
     obtain ⟨Bg,CO,CU,ES,-⟩:=X4.Az;go_upto_region 19 with
      (at_builtin
       refine FK _ rfl (.tmp 61) (.tmp 63) _ rfl (base:=w.heap.size) Jk JV Jl rfl (Own.alloc HP.1.KI _) rfl (l2:=[(i:Int)+1]) (Sl.lit (n:=1) (AO.made rfl _ _) rfl (D7 AA)) Dl Dl DR ?_;intro v10 w10 Vb JL jM;obtain ⟨Jf,c10,aX,-⟩:=Own.GU Vb;rw [ED.1] at aX;subst aX;have UL:=AO.grown (DL.1.alloc _) JL (fun e=>n4 e.symm);have yA:=(HP.1.keep (bA (bR wi) _)).face Vb JL;obtain ⟨Rn,Ls,ac1,qL,xK,agm⟩:=Jz (yA.far UL Aw Aw Aw Aw 2 (.slice Jf (i+1) c10)) (UL.EH 2 (.slice Jf (i+1) c10)) ((AO.grown (DC.1.alloc _) JL (fun e=>n2 e.symm)).far (p:=⟨g4,2,none⟩) agX (.slice Jf (i+1) c10)) (bS (p:=⟨g4,2,none⟩) (bG (bA HB.1 _) JL (fun q hq=>(HP.1.KI.lt q hq).1)) (by show w.heap.size<=g4;omega) (.slice Jf (i+1) c10)) (((VW.1.trans (Skip.of (bA (bR wi) _))).grow JL (fun k hk=>.inr (oz.1 k hk))).EH (p:=⟨g4,2,none⟩) ayY (.slice Jf (i+1) c10)) (show ∀ k,(Value.slice Jf (i+1) c10).ownBlock=some k->w4.heap.size<=k from jH jM oz.1 DR);clear Vb jM JL yA X4 Bg CO CU ES
       try clear agY agZ aga ag4
       try clear ag5 ag6 ag7
       obtain ⟨agY,agZ,aga,ag4,ag5,ag6,ag7⟩:=UL.Az
       )
     obtain ⟨aG,hW⟩:∃ W:World,W=w10.setCell ⟨g4,2,none⟩ (.slice Jf (i+1) c10):=⟨_,rfl⟩;rw [<- hW] at Rn Ls ac1 qL xK ⊢;have Ws:=AB (show AO aG g4 34 #[.slice Gp p.nodes.length Gq,.slice A bl.length c,.slice Jf (i+1) c10] by simpa using Ls.1);obtain ⟨row,hrow⟩:∃ r,(Value.slice A bl.length c).ownBlock=r:=⟨_,rfl⟩;have fG:=AB hrow;have n4:¬ some g4=row:=fun e=>Own.EX Rn.1.Ec Ws.1 Aw (hrow.trans e.symm);have n2:¬ some g2=row:=fun e=>Own.EX Rn.1.Ec ac1.1 Aw (hrow.trans e.symm);have hrB:∀ k,row=some k->k<BD:=by rw [<- hrow];exact ayZ.1
     have nL:¬ some gL=row:=fun e=>by have:=hrB gL e.symm;omega
     have HRw:=AB (show ∀ k,row=some k->w.heap.size<=k by rw [<- hrow];exact fun k hk=>(Rn.1.Ec.lt k hk).1);have OO:=AB (fun W (hs:Skip (· < BD) w4 W)=>show gL<W.heap.size/\W.cell? ⟨gL,(i+1)*4+1,none⟩=some (BF L[i+1].ov)/\W.cell? ⟨gL,(i+1)*4+2,none⟩=some (BF L[i+1].iv)/\Ints W (BF L[i+1].ov) L[i+1].out/\Sl W (BF L[i+1].iv) L[i+1].inn.length (L[i+1].inn.flatMap J5)/\(∀ c∈L[i+1].inn,Ints W (BF c.2) c.1)/\∀ k,(BF L[i+1].iv).ownBlock=some k->BD<=k from by
      have h:=xJ.1.skip (fun g h=>h) hs;obtain ⟨g',Gj,-,hgl,-,hce⟩:=Own.Ol h.own AA;injection Gj with Gj;injection Gj with Gj _ _;subst Gj;obtain ⟨-,e1,e2,-⟩:=hce (i+1) hi1;have hm:L[i+1]∈L:=BO hi1;exact ⟨hgl,e1,e2,(h.out _ hm).sl,(h.inn _ hm).sl,fun c hc=>(h.KT _ hm c hc).sl,fun k hk=>((h.inn _ hm).lt k hk).1⟩)
     have VX:=AB (fun F' c' (hc:c'∈Je q O (i+1)) W vx (ho:Own W w.heap.size 50 6 Ja (.slice A bl.length c) (Gs F' ol)) (hX:∀ W',W.grownBy W' row->Ints W' vx c')=>show Calls prog 87 #[.slice A bl.length c,vx,.int .i64 ((i:Int)+1)] W fun e w'=>e=.returned (.tuple #[])/\Own w' w.heap.size 50 6 Ja (.slice A bl.length c) (Gs (GV F' ((i:Int)+1) [c']) ol)/\W.grownBy w' row from by
      have h:=axk A c w.heap.size vx c' ((i:Int)+1) F' ol W (by rw [hol];exact ho) (by rw [hol,fG.1];exact hX) (fun d hd=>jD.1 (i+1) c' hc d hd) (EG (ML.1 (i+1) c' hc) AA) AA;rw [hol,fG.1] at h;exact h)
     have xM:=AB hrB;clear hW hrow Ls UL agY agZ aga ag4 ag5 ag6 ag7 DL DC HP HB VW oz hrB;generalize L[i+1]=x at *;obtain ⟨tw,X,⟨oa,on,oc⟩,In,⟨ia,Ld,ic⟩,EP,⟨aa,an,ac⟩⟩:=x;have hcy:=QH.1;unfold Qm at hcy;simp only [Ey] at hcy;unfold BF at OO;simp only at OO;have HCx:=AB hcy;obtain ⟨hgl,e1,e2,hxo,hxi,-⟩:=OO.1 aG xK.1;have JO:=AB (VX.1 (Iq q O i) X (by rw [<- hcy];exact JC) aG.drew (.slice oa on oc) (Rn.1.Ec.keep (bD (bR aG))) (fun W' hg=>(OO.1 W' ((xK.1.trans (Skip.of (bD (bR aG)))).grow hg (fun k hk=>.inl (xM.1 k hk)))).2.2.2.1));have X4:=Ws.1;clear hcy hxo hxi QH
     try clear Bg CO CU ES
     obtain ⟨Bg,CO,CU,ES,-⟩:=X4.Az;refine tH (aG) (row) (.run 8 0 0 (.call 8 511 (.done))) fun CQ QR Ae Aj hS=>?_
     iterate 8 refine Ak ?_
     refine BN ?_;clear hS;intro K hK AP;go_simp;refine JO.1.mono ?_;rintro e BZ ⟨rfl,ho1,hg1⟩;have hS:SE aG row BZ:=gT AP.out hg1;have Fp:=AB ho1;clear ho1 hg1;clear AP;refine hK.out _ _ hS (fun _=>?_);clear hK K
     try simp only [pu]
     refine ku ?_;clear hS Aj Ae;intro hB;have hgr:aG.grownBy BZ (Value.slice A bl.length c).ownBlock:=by rw [fG.1];exact hB
     obtain ⟨anH,VN,anI,Z8,anJ⟩:=I4 (Rn.1.marked Fp.1 hgr) (AO.grown Ws.1 hB n4) (AO.grown ac1.1 hB n2) (bG qL.1 hB HRw.1) (xK.1.grow hB (fun k hk=>.inl (xM.1 k hk)));clear hgr hB JO Fp Rn Ws ac1 qL xK X4 Bg CO CU ES hgl e1 e2;go_upto_block 4 with fail;go_wp2_with fail;go_loopw [10] (fun u wr=>∃ j:Nat,j<=In.length/\u=.int .i64 j/\FP wr w.heap.size (.slice Gp p.nodes.length Gq) (.slice A bl.length c) (.slice Jf (i+1) c10) ⟨q.nodes,(Gs (GV (Iq q O i) ((i:Int)+1) (X::(In.take j).map (·.1))) ol).map (·.1),Nw i++[(i:Int)+1]⟩ (Gs (GV (Iq q O i) ((i:Int)+1) (X::(In.take j).map (·.1))) ol)/\AO wr g4 34 #[.slice Gp p.nodes.length Gq,.slice A bl.length c,.slice Jf (i+1) c10]/\AO wr g2 34 #[.slice none 0 0,.slice none 0 0,.slice none 0 0]/\AU w wr/\Skip (· < BD) w4 wr) (fun u _=>In.length-(intOf u).toNat)
     case atStart => exact ⟨0,BX _,rfl,anH.1,VN.1,anI.1,Z8.1,anJ.1⟩
     case round =>
      clear anH VN anI Z8 anJ;obtain ⟨j,hj,rfl,hpo,X4,X2,hb,hsk⟩:=hrel;obtain ⟨wj,rfl⟩:=BR wr;obtain ⟨HP,DL,DC,HB,VW⟩:=I4 hpo X4 X2 hb hsk;obtain ⟨hgl,-,e2,-,hxi,hxc,hxb⟩:=OO.1 wj hsk;obtain ⟨Ai,ci,he,hi9,aya,hRi⟩:=hxi;unfold maxLen at aya;injection he with y1 y2 y3;subst y1 y2 y3;clear hpo X2 hb hsk;by_cases hjl:j<In.length
      ·obtain ⟨bi,oi,hAi,J7,c0⟩:=(show Row wj ia (In.flatMap J5) from hRi).cy hjl;subst hAi;have htk:(In.take (j+1)).map (·.1)=(In.take j).map (·.1)++[In[j].1]:=by rw [Em hjl,FH];rfl
       have hbm:BD<=bi:=hxb bi rfl;have hcm:In[j].1∈Je q O (i+1):=by rw [<- HCx.1];exact LM _ (FZ (BO hjl))
       have hci:=fun W hs=>(OO.1 W hs).2.2.2.2.2.1 In[j] (BO hjl);have JO:=AB (VX.1 (GV (Iq q O i) ((i:Int)+1) (X::(In.take j).map (·.1))) In[j].1 hcm wj.drew (BF In[j].2) (HP.1.Ec.keep (bD (bR wj))) (fun W' hg=>hci W' ((VW.1.trans (Skip.of (bD (bR wj)))).grow hg (fun k hk=>.inl (xM.1 k hk)))));have Ei:=AB htk;clear htk hcm hci;generalize In[j]=y at *;obtain ⟨C,xa,xn,xc⟩:=y;unfold BF at JO;simp only at c0 JO;have nb:¬ some bi=row:=fun e=>by have:=xM.1 bi e.symm;omega
       have j1:(j:Int)<In.length:=AA
       have j2:0<=(j:Int):=AA
       try clear Bg CO CU ES
       obtain ⟨Bg,CO,CU,ES,-⟩:=X4.Az;go_upto_region 23 with fail;refine tH (wj) (row) (.run 11 0 0 (.call 11 4095 (.done))) fun CQ QR Ae Aj hS=>?_
       iterate 11 refine Ak ?_
       refine BN ?_;clear hS;intro K hK AP;go_simp;refine JO.1.mono ?_;rintro e BZ ⟨rfl,ho1,hg1⟩;have hS:SE wj row BZ:=gT AP.out hg1;have Fp:=AB ho1;clear ho1 hg1;clear AP;refine hK.out _ _ hS (fun _=>?_);clear hK K
       try simp only [pu]
       refine ku ?_;clear hS Aj Ae;intro hB;have hgr:wj.grownBy BZ (Value.slice A bl.length c).ownBlock:=by rw [fG.1];exact hB
       have hap:=axJ (Iq q O i) ((i:Int)+1) (X::(In.take j).map (·.1)) C;have ac2:=AB (HP.1.marked Fp.1 hgr);rw [hap,qc,<- Ei.1] at ac2;obtain ⟨QG,ayb,jl,ayc⟩:=DW (AO.grown DL.1 hB n4) (AO.grown DC.1 hB n2) (bG HB.1 hB HRw.1) (VW.1.grow hB (fun k hk=>.inl (xM.1 k hk)));clear hgr hap hB JO Fp HP DL DC HB VW X4 Bg CO CU ES hgl e2 c0 J7;go_wp2;go_roundw
       case rel => exact ⟨j+1,AA,BG,ac2.1,QG.1,ayb.1,jl.1,ayc.1⟩
       case measure => exact BH
      ·obtain rfl:j=In.length:=AA
       have hpf:=HP.1;rw [I5,HCx.1,<- aml,<- aT.1] at hpf;have Lh:=AB hpf;clear hpf;go_wp2;go_roundw
       case rel => exact ⟨i+1,Jf,c10,AA,BG,Lh.1,DL.1,DC.1,HB.1,VW.1,agm.1⟩
       case measure => exact BH
    ·obtain rfl:i=O.length:=AA
     have k1:¬ (O.length:Int)+1<(L.length:Int):=by have:=Jj.1;omega
     have hlp:(⟨q.nodes,(Gs (Iq q O O.length) ol).map (·.1),Nw O.length⟩:Pl)=J6 p:=by
      unfold J6;rw [HQ.1,HO.1,HQn.1,<- HEq.1,<- QB.1];unfold Gs Nw;rw [IW,IW];rfl
     have hpo:=HP.1;rw [hlp] at hpo;have NZ:=AB hpo;clear hlp hpo;have X2:=DC.1
     try clear Bg CO CU ES
     obtain ⟨Bg,CO,CU,ES,-⟩:=X4.Az
     try clear Bh Bq Bv CS
     try clear Y9 ZY iQ
     obtain ⟨Bh,Bq,Bv,CS,Y9,ZY,iQ⟩:=X2.Az;go_wp2_with fail;exact Iz (g:=g2) (cs:=#[.slice Gp p.nodes.length Gq,.slice A bl.length c,.slice Ag O.length cg]) rfl Na rfl rfl (AO.LG DC.1) ⟨_,J6 p,by rw [HL.1];rfl,bS (p:=⟨g2,2,none⟩) (bS (p:=⟨g2,1,none⟩) (bS (p:=⟨g2,0,none⟩) HB.1 ZG _) ZG _) ZG _,(((NZ.1.far DC.1 Aw Aw Aw Aw 0 _).far (DC.1.EH 0 _) Aw Aw Aw Aw 1 _).far ((DC.1.EH 0 _).EH 1 _) Aw Aw Aw Aw 2 _).Yr,by rw [HL.1,AZ rfl]⟩
