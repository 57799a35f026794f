import Derived.StillTailTactics
import Derived.Test.YtialfdomhoojiaaGreatJ33
set_option linter.unusedSimpArgs false
set_option linter.unusedVariables false
set_option maxRecDepth 100000
set_option maxHeartbeats 8000000
namespace Go.Proofs.YtialfdomhoojiaaGreat
open Go.RowKit
theorem Row.ayN {w:World} {A:Option Addr} {l:List Pt} (h:Row w A (l.flatMap EX)) (h0:0<l.length) :
  ∃ b o,A=some ⟨b,o,none⟩/\b<w.heap.size/\∀ j (hj:j<l.length),w.cell? ⟨b,o+j*2,none⟩=some (.int .i64 l[j].x)/\w.cell? ⟨b,o+j*2+1,none⟩=some (.int .i64 l[j].y):=by
 obtain ⟨b,o,hA,hb,-⟩:=h.pt h0;refine ⟨b,o,hA,hb,fun j hj=>?_⟩;obtain ⟨b',o',hA',-,c0,c1⟩:=h.pt hj;rw [hA] at hA';obtain ⟨rfl,rfl⟩:b=b'/\o=o':=by simpa using hA'
 exact ⟨c0,c1⟩
theorem amf:StructOf Tryz.prog 73 4:=.Po Tryz.underlying73 FC
theorem ayO (v:Value) (l:List Pt) (w:World) (h:Dq w v l) (hpos:0<l.length) :
  Calls Tryz.prog 47 #[v] w fun e w'=>e=.returned (.agg (eP (Ou l)))/\AP w w':=by
 obtain ⟨A,c,rfl,h1,h2,hR⟩:=h;unfold maxLen at h2;obtain ⟨b,o,rfl,hlb,hc⟩:=Row.ayN hR hpos;obtain ⟨u0,u1⟩:=hc 0 hpos;simp only [lN,VJ] at u0 u1;obtain ⟨r,hr⟩:=BL (Ou l);rw [hr];have HR:=AA (show l.foldl OQ ⟨l[0].x,l[0].y,l[0].x,l[0].y⟩=r by
  rw [<- hr]
  cases l with
  | nil=>simp at hpos
  | cons p l=>rfl)
 have HI:=AA (show (⟨l[0].x,l[0].y,l[0].x,l[0].y⟩:Bx)=(l.take 1).foldl OQ ⟨l[0].x,l[0].y,l[0].x,l[0].y⟩ by
  cases l with
  | nil=>simp at hpos
  | cons p l =>
   show _=OQ ⟨p.x,p.y,p.x,p.y⟩ p
   unfold OQ;simp)
 have HC:=AA hc;obtain ⟨ln,hln⟩:=BL l.length;have HLn:=AA hln;rw [hln] at h1 hpos ⊢;obtain ⟨p0,hp0⟩:∃ p,l[0]=p:=⟨_,rfl⟩;rw [hp0] at u0 u1 HR HI;clear hr hc hR hp0 hln;have v1:(0:Int)<ln:=by omega
 have v2:((ln:Int) == 0)=false:=by simp;omega
 have v3:¬ ln=0:=by omega
 unfold eP;obtain ⟨g2,hg2⟩:∃ g,w.heap.size=g:=⟨_,rfl⟩;obtain ⟨W,hW⟩:=BO (w.alloc (.cells #[.int .i64 0,.int .i64 0,.int .i64 0,.int .i64 0] 73));have hA:AP w W:=by rw [hW];exact bA (bR w) _
 have X2:AO W g2 73 #[.int .i64 0,.int .i64 0,.int .i64 0,.int .i64 0]:=by rw [hW];exact AO.made hg2.symm _ _
 have HB:=AA hA;have CG:=AA X2;go_enter Tryz.func47,Tryz.ntmps47;go_upto_region 3 with fail
 try rw [<- hW]
 have hgw:w.heap.size<=g2:=by omega
 have hbg:b<g2:=by omega
 have hbW:b<W.heap.size:=L9 hlb hA.size;replace u0:=Dv hA u0;replace u1:=Dv hA u1;clear hW hg2 hA;go_cut [3] (fun u wx=>∃ g3,u=.pointer (some ⟨g3,0,none⟩)/\AO wx g3 73 #[.int .i64 p0.x,.int .i64 p0.y,.int .i64 p0.x,.int .i64 p0.y]/\W.heap.size<=g3/\AP W wx)
 case first =>
  refine QK (W.heap.size) (W) (.run 17 0 0 (.call 17 262143 (.call 18 524287 (.done)))) fun Bv QR Ae Ah hS=>?_
  iterate 17 refine Aj ?_
  refine BP ?_;clear hS;intro K hK AQ;go_simp;have XQy:Below (W.heap.size) W (W.drew):=AQ.out;have XQz:W.heap.size<=(W.drew).heap.size:=Dn AB (show Below (W.heap.size) W (W.drew) from AQ.out).size;refine hK.out _ _ (Gj AB AQ.out _) (fun hS=>?_);clear hK K AQ
  try replace XQ:=XQ.alloc (.cells #[.int .i64 0,.int .i64 0,.int .i64 0,.int .i64 0] 73)
  have XQ:=AO.new (W.drew) 73 #[.int .i64 0,.int .i64 0,.int .i64 0,.int .i64 0]
  try simp only [World.size_drew,World.size_alloc] at XQ XQz
  try simp only [pu]
  refine BP ?_;clear hS;intro K hK AQ;obtain ⟨XQl,XQa,XQb,XQc,XQd,XQe,XQf,XQg,XQh⟩:=XQ.MC;go_simp;refine hK.out _ _ (by unfold Fb;have h:Below _ _ _:=AQ.out;repeat (first | with_reducible assumption | with_reducible exact Below.refl _ _ | with_reducible refine MK ?_ OC _ | with_reducible refine Below.drew ?_ | with_reducible refine Gj AB ?_ _ | exact h)) ?_;intro hS;clear hK K AQ
  try simp only [pu]
  refine KW ?_;clear hS Ah Ae;intro hB;go_wp2;go_meet
  case rel => exact ⟨_,rfl,(by first | with_reducible exact AO.gX XQ | with_reducible exact AO.made rfl _ _ | with_reducible exact AO.drew (AO.made rfl _ _)),D7,hB⟩
 case rest =>
 obtain ⟨g3,rfl,X3,hg3,hb3⟩:=hcut;obtain ⟨W3,hW3⟩:=BO wc;rw [<- hW3] at X3 hb3 ⊢;have HB3:=AA (bT HB.out hb3);have rP:=AA (CG.out.keep hb3);have Ep:=AA X3;have ayP:g2<g3:=by have:=CG.out.lt;omega
 have axd:w.heap.size<=g3:=by omega
 have azP:b<g3:=by omega
 clear hW3 hb3 X3 X2 u0 u1 hbW;go_wp2_with fail;go_loopw [4] (fun u wr=>∃ (k:Nat) (x:Bx),1<=k/\k<=ln/\u=.int .i64 k/\x=(l.take k).foldl OQ ⟨p0.x,p0.y,p0.x,p0.y⟩/\AO wr g3 73 #[.int .i64 x.x0,.int .i64 x.y0,.int .i64 x.x1,.int .i64 x.y1]/\Below g3 W3 wr) (fun u _=>ln-(intOf u).toNat)
 case atStart => exact ⟨1,⟨p0.x,p0.y,p0.x,p0.y⟩,DT _,hpos,rfl,HI.out,Ep.out,Below.refl _ _⟩
 case round =>
  obtain ⟨k,x,hk1,hk,rfl,hx,X3,hb⟩:=hrel;have Hb:=AA hb;have HX:=AA hx;have zO:=AA X3;have l3:=X3.lt;have EY:=AA (show AP w wr from HB3.out.trans (hb.mono axd));clear hb hx;by_cases hlt:k<ln
  ·have hkl:k<l.length:=by rw [HLn.out];exact hlt
   obtain ⟨c0,c1⟩:=HC.out k hkl;replace c0:=Dv EY.out c0;replace c1:=Dv EY.out c1;have hst:(l.take (k+1)).foldl OQ ⟨p0.x,p0.y,p0.x,p0.y⟩=OQ x l[k]:=by
    rw [En hkl,O9,<- HX.out];rfl
   unfold OQ at hst;have DI:=AA hst;obtain ⟨q,hq⟩:=BL (l[k]);rw [hq] at c0 c1 DI;clear hq hst hkl;have hbr:b<wr.heap.size:=by omega
   have hne:some b≠some g3:=fun e=>by have:=Dc e;omega
   have r1:0<=(k:Int):=by omega
   have r2:(k:Int)<ln:=by omega
   obtain ⟨E5,Eo,F9,LC,KZ,bg,vU,alf,alg⟩:=X3.MC;go_upto_region 7 with fail;have hmn:(⟨if q.x<x.x0 then q.x else x.x0,if q.y<x.y0 then q.y else x.y0,if x.x1<q.x then q.x else x.x1,if x.y1<q.y then q.y else x.y1⟩:Bx)=⟨min x.x0 q.x,min x.y0 q.y,max x.x1 q.x,max x.y1 q.y⟩:=by
    congr 1
    · split<;>omega
    · split<;>omega
    · split<;>omega
    · split<;>omega
   have HMn:=AA hmn;clear hmn;go_still_tail 33,FC;change wpList _ _ _ _ _ wr.drew;have KZ:=zO.out.drew;have afp:=AA KZ;have hbd:Below g3 W3 wr.drew:=Below.drew Hb.out;obtain ⟨wd,hwd⟩:=BO wr.drew;have Nj:=AA hbd;rw [<- hwd] at KZ afp Nj ⊢;clear hwd hbd X3 E5 Eo F9 LC c0 c1;obtain ⟨azQ,azR,azS,azT,azU,azV,azW,azX,azY⟩:=KZ.MC;go_wp2;go_roundw
   case rel => first | exact ⟨k+1,_,AB,AB,BI,HMn.out.trans DI.out.symm,afp.out.gX,(((Nj.out.setCell (p:=⟨g3,0,none⟩) (DT _) _).setCell (p:=⟨g3,1,none⟩) (DT _) _).setCell (p:=⟨g3,2,none⟩) (DT _) _).setCell (p:=⟨g3,3,none⟩) (DT _) _⟩ | exact ⟨k+1,_,AB,AB,BI,DI.out.symm,afp.out.gX,(((Nj.out.setCell (p:=⟨g3,0,none⟩) (DT _) _).setCell (p:=⟨g3,1,none⟩) (DT _) _).setCell (p:=⟨g3,2,none⟩) (DT _) _).setCell (p:=⟨g3,3,none⟩) (DT _) _⟩
   case measure => exact BK
  ·have hxr:x=r:=by rw [HX.out,Hw (by have:=HLn.out;omega),HR.out]
   have HXr:=AA hxr;have r2:¬ (k:Int)<ln:=by omega
   clear hxr;have X2:=rP.out.below Hb.out ayP;have axe:=AA X2
   try clear E5 Eo F9 LC KZ
   try clear bg vU alf alg
   obtain ⟨E5,Eo,F9,LC,KZ,-,-,-,-⟩:=X3.MC;obtain ⟨BQ,BR,BX,CZ,uG,XI,iy,qV,afd⟩:=X2.MC;go_wp2_with fail;refine gY (g:=g2) (cs:=#[.int .i64 x.x0,.int .i64 x.y0,.int .i64 x.x1,.int .i64 x.y1]) rfl amf rfl rfl (AO.gX axe.out) ⟨by rw [HXr.out],?_⟩;exact (((EY.out.setCell (p:=⟨g2,0,none⟩) hgw _).setCell (p:=⟨g2,1,none⟩) hgw _).setCell (p:=⟨g2,2,none⟩) hgw _).setCell (p:=⟨g2,3,none⟩) hgw _
theorem axf (v:Value) (w:World) (h:Dq w v []):Calls Tryz.prog 47 #[v] w fun e w'=>e=.returned (.agg (eP (Ou [])))/\AP w w':=by
 obtain ⟨A,c,rfl,-⟩:=h;have hz:(([] : List Pt).length:Int)=0:=rfl;unfold eP Ou;simp only [Md];obtain ⟨g2,hg2⟩:∃ g,w.heap.size=g:=⟨_,rfl⟩;obtain ⟨W,hW⟩:=BO (w.alloc (.cells #[.int .i64 0,.int .i64 0,.int .i64 0,.int .i64 0] 73));have hA:AP w W:=by rw [hW];exact bA (bR w) _
 have X2:AO W g2 73 #[.int .i64 0,.int .i64 0,.int .i64 0,.int .i64 0]:=by rw [hW];exact AO.made hg2.symm _ _
 have HB:=AA hA;have CG:=AA X2;go_enter Tryz.func47,Tryz.ntmps47;go_upto_region 1 with fail;rw [<- hW]
 try rw [hg2]
 have hgw:w.heap.size<=g2:=by omega
 clear hW hg2 hA;obtain ⟨BQ,BR,BX,CZ,uG,XI,iy,qV,afd⟩:=X2.MC;go_wp2_with fail;refine gY (g:=g2) (cs:=#[.int .i64 0,.int .i64 0,.int .i64 (-1),.int .i64 (-1)]) rfl amf rfl rfl (AO.gX CG.out) ⟨rfl,?_⟩;exact (((HB.out.setCell (p:=⟨g2,0,none⟩) hgw _).setCell (p:=⟨g2,1,none⟩) hgw _).setCell (p:=⟨g2,2,none⟩) hgw _).setCell (p:=⟨g2,3,none⟩) hgw _
theorem axg (v:Value) (l:List Pt) (w:World) (h:Dq w v l):Calls Tryz.prog 47 #[v] w fun e w'=>e=.returned (.agg (eP (Ou l)))/\AP w w':=by
 cases l with
 | nil=>exact axf v w h
 | cons p l=>exact ayO v (p::l) w h Aw
structure Lgt (p:Pl):Prop where
 nodes:p.nodes.length<=30
 AU:p.AU.length<=30
 faces:p.faces.length<=30
 NQ:∀ a∈p.AU,a.via.length<=180
def axh (w:World) (p:Pl) (e:Ending) (w':World):Prop:=∃ b,e=.returned (.bool b)/\(b=true->Lgt p)/\AP w w'
theorem amg (v:Value) (p:Pl) (w:World) (h:Cb w v p) (hsz:∀ a∈p.AU,a.via.length<=9223372036854775000):Calls Tryz.prog 15 #[v] w (axh w p):=by
 have Ui:=AA hsz;clear hsz;obtain ⟨_,_,_,al,rfl,hpa,⟨An,cn,rfl,hn1,hn2,hR⟩,⟨⟨Aa,ca,rfl,hm1,hm2,FU⟩,TG⟩,⟨Af,cf,rfl,-⟩⟩:=h;have HRn:=AA hR;have Gu:=AA FU;have jY:=AA TG;have LH:=AA hpa;have hnv:p.AU.length=al.length:=by rw [hpa,Cm]
 obtain ⟨nn,hnn⟩:∃ n,p.nodes.length=n:=⟨_,rfl⟩;obtain ⟨na,hna⟩:∃ n,al.length=n:=⟨_,rfl⟩;obtain ⟨nf,hnf⟩:∃ n,p.faces.length=n:=⟨_,rfl⟩;have Xf:=AA hnn;have XW:=AA hna;have HNf:=AA hnf;have Vt:=AA hnv;rw [hnn,hna,hnf];clear hR FU TG hpa hnv hnn hna hnf hn1 hn2 hm1 hm2;go_enter Tryz.func15,Tryz.ntmps15;go_upto_region 1 with fail;obtain ⟨W1,hW⟩:∃ W:World,W=w.alloc (.cells #[.slice An nn cn,.slice Aa na ca,.slice Af nf cf] 26):=⟨_,rfl⟩;have X1:AO W1 w.heap.size 26 #[.slice An nn cn,.slice Aa na ca,.slice Af nf cf]:=by rw [hW];exact AO.made rfl _ _
 have HB1:=AA (show AP w W1 by rw [hW];exact bA (bR w) _);obtain ⟨g1,h1⟩:∃ g,w.heap.size=g:=⟨_,rfl⟩;have hg1:w.heap.size<=g1:=by omega
 rw [<- hW];rw [h1] at X1 ⊢;have D9:=AA X1;clear hW h1;obtain ⟨Ak,Au,Az,BA,-,-,-⟩:=X1.BF;by_cases h1:30<nn
 ·have k1:(30:Int)<nn:=by omega
  go_wp2;go_ret;exact ⟨false,rfl,fun h=>(by cases h),HB1.out⟩
 by_cases h2:30<na
 ·have k1:¬ (30:Int)<nn:=by omega
  have k2:(30:Int)<na:=by omega
  go_wp2;go_ret;exact ⟨false,rfl,fun h=>(by cases h),HB1.out⟩
 by_cases h3:30<nf
 ·have k1:¬ (30:Int)<nn:=by omega
  have k2:¬ (30:Int)<na:=by omega
  have k3:(30:Int)<nf:=by omega
  go_wp2;go_ret;exact ⟨false,rfl,fun h=>(by cases h),HB1.out⟩
 have k1:¬ (30:Int)<nn:=by omega
 have k2:¬ (30:Int)<na:=by omega
 have k3:¬ (30:Int)<nf:=by omega
 go_upto_block 0 with fail;clear k1 k2 k3 X1 Ak Au Az BA;go_wp2_with fail;go_loopw [4,3] (fun i s wr=>∃ (k:Nat) (l:List Pt),k<=nn/\i=.int .i64 k/\(∃ A c,s=.slice A l.length c)/\Own wr W1.heap.size 39 2 EX s l/\l.length=k/\AP W1 wr) (fun i _ _=>nn-(intOf i).toNat)
 case atStart => exact ⟨0,[],BZ _,rfl,⟨_,_,rfl⟩,Own.nil _ _ _ _ _,rfl,bR W1⟩
 case round =>
  obtain ⟨k,l,hk,rfl,⟨A,c,rfl⟩,ho,hl,hb⟩:=hrel;obtain ⟨wo,rfl⟩:=BO wr;have HO:=AA ho;have Hb:=AA hb;have qL:=AA hl;have hlk:l.length<=30:=by omega
  have X1:=D9.out.keep hb;clear ho hb hl;by_cases hlt:k<nn
  ·obtain ⟨b,o,hA,hlb,c0,c1,c2⟩:=(HRn.out.mono (bT HB1.out Hb.out)).nd (k:=k) (by rw [Xf.out];exact hlt);subst hA;generalize p.nodes[k]'_=x at *;obtain ⟨id,x0,y0⟩:=x;simp only at c0 c1 c2;have hw1:=Hb.out.size;have hsh:(l++[(⟨x0,y0⟩:Pt)]).length=l.length+1:=by simp
   have DL:=AA hsh;clear hsh
   try clear Ak Au Az BA
   obtain ⟨Ak,Au,Az,BA,-,-,-⟩:=X1.BF;go_wp2_with
    (at_builtin
     refine Ew _ rfl (.tmp 30) (.tmp 37) _ rfl (base:=W1.heap.size) KR Jv KT rfl (Own.alloc HO.out _) rfl (l2:=[(⟨x0,y0⟩:Pt)]) (Sl.lit (n:=1) (AO.made rfl _ _) rfl (D6 AB)) DR DR DC ?_;intro v3 w3 ho3 hg3 Jc;obtain ⟨A3,c3,hv3,-⟩:=ho3.sl;rw [DL.out] at hv3;subst hv3;have EI:=AA ho3;have HB3:=AA (show AP W1 w3 from bG (bA Hb.out _) hg3 (fun g hg=>(HO.out.lt g hg).1));clear ho3 hg3 Jc X1 Ak Au Az BA)
   go_roundw
   case rel => exact ⟨k+1,l++[⟨x0,y0⟩],AB,BI,⟨A3,c3,by rw [DL.out]⟩,EI.out,by rw [DL.out,qL.out],HB3.out⟩
   case measure => exact BK
  ·obtain rfl:k=nn:=by omega
   obtain ⟨wA,rfl⟩:=BO wo;have hlA:l.length<=30:=hlk;clear qL
   try clear Ak Au Az BA
   obtain ⟨Ak,Au,Az,BA,-,-,-⟩:=X1.BF;go_upto_block 2 with fail;clear X1 Ak Au Az BA;go_wp2_with fail;go_loopw [5,3] (fun i s wr=>∃ (k:Nat) (l:List Pt),k<=na/\i=.int .i64 k/\(∃ A c,s=.slice A l.length c)/\Own wr W1.heap.size 39 2 EX s l/\l.length<=180/\(∀ j (hj:j<al.length),j<k->al[j].1.via.length<=180)/\AP W1 wr) (fun i _ _=>na-(intOf i).toNat)
   case atStart => exact ⟨0,l,BZ _,rfl,⟨_,_,rfl⟩,HO.out,AB,fun j _ hj=>by omega,Hb.out⟩
   case round =>
    obtain ⟨k,l,hk,rfl,⟨A,c,rfl⟩,ho,hl,hvs,hb⟩:=hrel;obtain ⟨wo,rfl⟩:=BO wr;have HO:=AA ho;have Hb:=AA hb;have qW:=AA hvs;have X1:=D9.out.keep hb;have hw1:=hb.size;clear ho hb hvs;by_cases hlt:k<na
    ·have hka:k<al.length:=by rw [XW.out];exact hlt
     obtain ⟨b,o,hA,hlb,c0,c1,c2,c3,c4,c5⟩:=(Gu.out.mono (bT HB1.out Hb.out)).ar hka;subst hA;have hvv:=fun W (hW:AP w W)=>(jY.out k hka).mono hW;have hvz:al[k].1.via.length<=9223372036854775000:=Ui.out _ (by rw [LH.out];exact Gs (BH hka));have HVn:=AA (fun (h:al[k].1.via.length<=180)=>show ∀ j (hj:j<al.length),j<k+1->al[j].1.via.length<=180 from fun j hj hjk=>by
      by_cases e:j=k
      · subst e;exact h
      · exact qW.out j hj AB)
     generalize al[k]=x at *;obtain ⟨a,u⟩:=x;simp only at c3 hvv HVn hvz;obtain ⟨Av,cv,hue,hv1,hv2,-⟩:=hvv w (bR w);subst hue;have Tt:=AA hvv;unfold maxLen at hv2;obtain ⟨V,hV⟩:=BL a.via;rw [hV] at hv1 c3 Tt HVn hvz;clear hV hvv c0 c1 c2 c4 c5;have i1:0<=(k:Int):=by omega
     have i2:(k:Int)<na:=by omega
     have HB2:=AA (bT HB1.out Hb.out)
     try clear Ak Au Az BA
     obtain ⟨Ak,Au,Az,BA,-,-,-⟩:=X1.BF;by_cases hbig:180<l.length+V.length
     ·have hs1:(180:Int)<(l.length:Int)+V.length:=by omega
      have kw:IntKind.i64.wrap ((l.length:Int)+V.length)=l.length+V.length:=Ci _ AB;go_wp2;go_ret;exact ⟨false,rfl,fun h=>(by cases h),HB2.out⟩
     ·have hs1:¬ (180:Int)<(l.length:Int)+V.length:=by omega
      have kw:IntKind.i64.wrap ((l.length:Int)+V.length)=l.length+V.length:=Ci _ AB;have hsh:(l++V).length=l.length+V.length:=EC;have DL:=AA hsh;clear hsh;go_wp2_with
       (at_builtin
        refine Ew _ rfl (.tmp 57) (.tmp 63) _ rfl (base:=W1.heap.size) KR Jv KT rfl HO.out rfl (l2:=V) (Tt.out _ HB2.out) AB AB AB ?_;intro v3 w3 ho3 hg3 Jc;obtain ⟨A3,c3',hv3,-⟩:=ho3.sl;rw [DL.out] at hv3;subst hv3;have EI:=AA ho3;have HB3:=AA (show AP W1 w3 from bG Hb.out hg3 (fun g hg=>(HO.out.lt g hg).1));clear ho3 hg3 Jc X1 Ak Au Az BA)
      go_roundw
      case rel => exact ⟨k+1,l++V,AB,BI,⟨A3,c3',by rw [DL.out]⟩,EI.out,by rw [DL.out];omega,HVn.out AB,HB3.out⟩
      case measure => exact BK
    ·obtain rfl:k=na:=by omega
     have HLg:=AA (show Lgt p from ⟨by rw [Xf.out];omega,by rw [Vt.out,XW.out];omega,by rw [HNf.out];omega,fun a ha=>by
      rw [LH.out] at ha;obtain ⟨z,hz,rfl⟩:=EM.1 ha;obtain ⟨j,hj,rfl⟩:=Dp.1 hz;exact qW.out j hj (by rw [<- XW.out];exact hj)⟩)
     have Ec:=axg _ l wo HO.out.sl;unfold eP at Ec;generalize Ou l=bx at *;obtain ⟨x0,y0,x1,y1⟩:=bx;simp only at Ec;have F7:=AA Ec;clear Ec qW
     try clear Ak Au Az BA
     obtain ⟨Ak,Au,Az,BA,-,-,-⟩:=X1.BF;go_wp2_with fail;refine F7.out.mono ?_;rintro e w5 ⟨rfl,hb5⟩;have CW:=AA (bT (bT HB1.out Hb.out) hb5);clear hb5 F7 X1 Ak Au Az BA;go_wp2_with fail
     all_goals
      go_ret;exact ⟨_,rfl,fun _=>HLg.out,bA CW.out _⟩
