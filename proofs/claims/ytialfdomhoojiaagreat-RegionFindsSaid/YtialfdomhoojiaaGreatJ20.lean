import Derived.Test.YtialfdomhoojiaaGreatJ19
set_option linter.unusedSimpArgs false
set_option linter.unusedVariables false
set_option maxRecDepth 100000
set_option maxHeartbeats 8000000
namespace Go.Proofs.YtialfdomhoojiaaGreat
open Go.RowKit
structure SK (w0 W:World) (g1 g2 g3:Nat) (v:Pt) (s:Bool×Bool):Prop where
 b:AP w0 W
 at_:AO W g1 39 #[.int .i64 v.x,.int .i64 v.y]
 oU:AO W g2 4 #[.bool s.1]
 odd:AO W g3 4 #[.bool s.2]
 l2:w0.heap.size<=g2
 l3:w0.heap.size<=g3
 n12:g1≠g2
 n13:g1≠g3
 n23:g2≠g3
theorem SK.keep {w0 W W':World} {g1 g2 g3:Nat} {v:Pt} {s:Bool×Bool} (h:SK w0 W g1 g2 g3 v s) (hb:AP W W'):SK w0 W' g1 g2 g3 v s :=
 ⟨bT h.b hb,h.at_.keep hb,h.oU.keep hb,h.odd.keep hb,h.l2,h.l3,h.n12,h.n13,h.n23⟩
theorem SK.at7 {w0 W:World} {g1 g2 g3:Nat} {v:Pt} {s:Bool×Bool} (h:SK w0 W g1 g2 g3 v s) (x:Bool):SK w0 (W.setCell ⟨g2,0,none⟩ (.bool x)) g1 g2 g3 v (x,s.2) :=
 ⟨bS h.b h.l2 _,h.at_.far h.n12 _,by have:=h.oU.EW 0 (.bool x);simpa using this,h.odd.far (fun e=>h.n23 e.symm) _,h.l2,h.l3,h.n12,h.n13,h.n23⟩
theorem SK.akT {w0 W:World} {g1 g2 g3:Nat} {v:Pt} {s:Bool×Bool} (h:SK w0 W g1 g2 g3 v s) (x:Bool):SK w0 (W.setCell ⟨g3,0,none⟩ (.bool x)) g1 g2 g3 v (s.1,x) :=
 ⟨bS h.b h.l3 _,h.at_.far h.n13 _,h.oU.far h.n23 _,by have:=h.odd.EW 0 (.bool x);simpa using this,h.l2,h.l3,h.n12,h.n13,h.n23⟩
theorem atA {a b c:Pt} (h:Dy [a,b,c]=true):(0<FH a b c↔0<tw a b c)/\(FH a b c<0↔tw a b c<0):=by
 unfold FH YH;rw [AZ h];split
 · omega
 · split<;>omega
theorem atB (w0 W:World) (g1 g2 g3:Nat) (v a b:Pt) (s:Bool×Bool) (h:SK w0 W g1 g2 g3 v s) (na:Bg a=true) (nb:Bg b=true) (nv:Bg v=true) :
  Calls Tryz.prog 199 #[BD a,BD b,.pointer (some ⟨g1,0,none⟩),.pointer (some ⟨g2,0,none⟩),.pointer (some ⟨g3,0,none⟩)] W fun e W'=>e=.returned (.tuple #[])/\SK w0 W' g1 g2 g3 v (QS v s (a,b))/\Below w0.heap.size W W':=by
 have TO:=fun W=>uU a b v W;have TS:=fun W=>agE a b v W;obtain ⟨p1,p2⟩:=atA (a:=a) (b:=b) (c:=v) (by simp [Dy,na,nb,nv]);have hz0:=h.b.size;unfold BD at TO TS ⊢;have HO:=AA TO;have HS:=AA TS;have HI:=AA h;clear TO TS na nb nv;obtain ⟨R,hR⟩:=BL (QS v s (a,b));rw [hR];unfold QS Iq at hR;simp only at hR;have hl1:=h.at_.lt;have hl2:=h.oU.lt;have hl3:=h.odd.lt;go_enter Tryz.func199,Tryz.ntmps199;go_upto_block 0 with fail;obtain ⟨W1,hW⟩:=BO ((W.alloc (.cells #[.int .i64 a.x,.int .i64 a.y] 39)).alloc (.cells #[.int .i64 b.x,.int .i64 b.y] 39));have HB1:=AA (show AP W W1 by rw [hW];exact bA (bA (bR W) _) _);have X5:AO W1 W.heap.size 39 #[.int .i64 a.x,.int .i64 a.y]:=by rw [hW];exact (AO.made rfl _ _).alloc _
 have X6:AO W1 (W.heap.size+1) 39 #[.int .i64 b.x,.int .i64 b.y]:=by rw [hW];exact AO.made Aw _ _
 rw [<- hW];clear hW h;have HI1:=AA (HI.out.keep HB1.out);have D8:=AA X5;have IV:=AA X6;have X1:=HI1.out.at_;have Kr:=AA hR;clear hR;obtain ⟨Ak,Au,Az,-,-⟩:=X1.BN;obtain ⟨CJ,CO,CS,-,-⟩:=X5.BN;obtain ⟨EF,EG,EH,-,-⟩:=X6.BN;go_wp2_with fail;refine (HO.out _).mono ?_;rintro e w2 ⟨rfl,hb2⟩;have HI2:=AA (HI1.out.keep hb2);have HB2:=AA (Below.trans (HB1.out.mono hz0) (hb2.mono (by have:=HB1.out.size;omega)));have ae8:=AA (D8.out.keep hb2);have atC:=AA (IV.out.keep hb2);have hz2:=hb2.size;clear hb2 X1 Ak Au Az X5 CJ CO CS X6 EF EG EH D8 IV HI1 HB1 HO;have hR:=Kr.out;clear Kr;obtain ⟨o,ho⟩:=BL (EO a b v);rw [ho] at hR ⊢;clear ho
 cases o
 case true =>
  rw [AZ rfl] at hR;have HF:=AA (HI2.out.at7 true);rw [hR] at HF;have X2:=HI2.out.oU;have kN:=AA (HB2.out.setCell (p:=⟨g2,0,none⟩) HI2.out.l2 (.bool true));clear hR;obtain ⟨BQ,BR,XI⟩:=X2.Fa;go_wp2_with fail;exact bodyPost_end (v:=.tuple #[]) (results_none rfl _ _ _) rfl ⟨rfl,HF.out,kN.out⟩
 case false =>
  rw [AX BG] at hR;obtain ⟨sd,hsd⟩:=BL (FH a b v);rw [hsd] at HS p1 p2;clear hsd;have X1:=HI2.out.at_;have X5:=ae8.out;have X6:=atC.out
  try clear Ak Au Az
  obtain ⟨Ak,Au,Az,-,-⟩:=X1.BN
  try clear CJ CO CS
  obtain ⟨CJ,CO,CS,-,-⟩:=X5.BN
  try clear EF EG EH
  obtain ⟨EF,EG,EH,-,-⟩:=X6.BN;by_cases c:(a.y<=v.y/\v.y<b.y)\/(b.y<=v.y/\v.y<a.y)
  case neg =>
   have hf:s=R:=by
    rw [G8 AB] at hR;simpa using hR
   have HF:=AA hf;clear hR hf p1 p2;by_cases c1:a.y<=v.y
   ·have c2:¬ v.y<b.y:=by omega
    by_cases d1:b.y<=v.y
    ·have d2:¬ v.y<a.y:=by omega
     clear c;go_wp2_with fail;exact bodyPost_end (v:=.tuple #[]) (results_none rfl _ _ _) rfl ⟨rfl,by rw [<- HF.out];exact HI2.out,HB2.out⟩
    · omega
   ·have d2:v.y<a.y:=by omega
    have d1:¬ b.y<=v.y:=by omega
    clear c;go_wp2_with fail;exact bodyPost_end (v:=.tuple #[]) (results_none rfl _ _ _) rfl ⟨rfl,by rw [<- HF.out];exact HI2.out,HB2.out⟩
  case pos =>
   have atD:=AA X1;have atE:=AA X5;have atF:=AA X6;rcases c with ⟨c1,c2⟩ | ⟨d1,d2⟩
   ·have d1:¬ b.y<=v.y:=by omega
    go_wp2_with fail;refine (HS.out _).mono ?_;rintro e w3 ⟨rfl,hb3⟩;have HI3:=AA (HI2.out.keep hb3);have hz3:=hb3.size;have HB3:=AA (Below.trans HB2.out (hb3.mono AB));have X1:=atD.out.keep hb3;have X5:=atE.out.keep hb3;have X6:=atF.out.keep hb3;clear hb3
    try clear Ak Au Az
    obtain ⟨Ak,Au,Az,-,-⟩:=X1.BN
    try clear CJ CO CS
    obtain ⟨CJ,CO,CS,-,-⟩:=X5.BN
    try clear EF EG EH
    obtain ⟨EF,EG,EH,-,-⟩:=X6.BN;by_cases g:0<sd
    ·have hf:(s.1,!s.2)=R:=by
      rw [JE AB] at hR;simpa using hR
     have HF:=AA (HI3.out.akT (!s.2));rw [hf] at HF;have kN:=AA (HB3.out.setCell (p:=⟨g3,0,none⟩) HI3.out.l3 (.bool (!s.2)));have X3:=HI3.out.odd;obtain ⟨s1,s2⟩:=s;simp only at X3 HF kN;clear hR hf p1 p2;obtain ⟨E5,Eo,bg⟩:=X3.Fa
     cases s2
     all_goals
      go_wp2_with fail;exact bodyPost_end (v:=.tuple #[]) (results_none rfl _ _ _) rfl ⟨rfl,HF.out,kN.out⟩
    ·have hf:s=R:=by
      rw [G8 AB] at hR;simpa using hR
     have HF:=AA hf;clear hR hf p1 p2;go_wp2_with fail;exact bodyPost_end (v:=.tuple #[]) (results_none rfl _ _ _) rfl ⟨rfl,by rw [<- HF.out];exact HI3.out,HB3.out⟩
   ·have c0:¬ (a.y<=v.y):=by omega
    go_wp2_with fail;refine (HS.out _).mono ?_;rintro e w3 ⟨rfl,hb3⟩;have HI3:=AA (HI2.out.keep hb3);have hz3:=hb3.size;have HB3:=AA (Below.trans HB2.out (hb3.mono AB));clear hb3;by_cases g:sd<0
    ·have hf:(s.1,!s.2)=R:=by
      rw [JE AB] at hR;simpa using hR
     have HF:=AA (HI3.out.akT (!s.2));rw [hf] at HF;have kN:=AA (HB3.out.setCell (p:=⟨g3,0,none⟩) HI3.out.l3 (.bool (!s.2)));have X3:=HI3.out.odd;obtain ⟨s1,s2⟩:=s;simp only at X3 HF kN;clear hR hf p1 p2
     try clear E5 Eo
     try clear bg
     obtain ⟨E5,Eo,bg⟩:=X3.Fa
     cases s2
     all_goals
      go_wp2_with fail;exact bodyPost_end (v:=.tuple #[]) (results_none rfl _ _ _) rfl ⟨rfl,HF.out,kN.out⟩
    ·have hf:s=R:=by
      rw [G8 AB] at hR;simpa using hR
     have HF:=AA hf;clear hR hf p1 p2;go_wp2_with fail;exact bodyPost_end (v:=.tuple #[]) (results_none rfl _ _ _) rfl ⟨rfl,by rw [<- HF.out];exact HI3.out,HB3.out⟩
theorem atG (w:World) (gm:Nat) (p:Pl) (f:Int->SV) (hpm:QT w gm p f) (hv:Valid p) (vc:Value) (X:List Int) (hX:Ints w vc X) (hd:∀ d∈X,d∈BU p) (v:Pt) (nv:Bg v=true) :
  Calls Tryz.prog 135 #[.map (some gm),vc,BD v] w fun e w'=>e=.returned (.bool (encS p X v))/\AP w w':=by
 have WZ:=AA (fun s W (h0:SK w W w.heap.size (w.heap.size+1) (w.heap.size+1+1) v s)=>aqh w gm p f hpm hv vc X hX hd w.heap.size (w.heap.size+1) (w.heap.size+1+1) (fun s W=>SK w W w.heap.size (w.heap.size+1) (w.heap.size+1+1) v s) (QS v) (fun s W h=>h.b) (fun s W h=>h.keep (bD (bR W)))
  (fun s W q hq h=>by
   obtain ⟨a,ha,-,k,hk,rfl⟩:=hv.aB8 hd hq;exact atB w W _ _ _ v _ _ s h (hv.DW ha AB) (hv.DW ha hk) nv) s W h0)
 unfold BD;obtain ⟨R,hR⟩:=BL (encS p X v);rw [hR];have Kr:=AA hR;clear hR hpm hv hX hd nv;go_enter Tryz.func135,Tryz.ntmps135;go_upto_region 2 with fail;obtain ⟨W1,hW⟩:=BO (((w.alloc (.cells #[.int .i64 v.x,.int .i64 v.y] 39)).alloc (.cells #[.bool false] 4)).alloc (.cells #[.bool false] 4));have HE:=AA (show SK w W1 w.heap.size (w.heap.size+1) (w.heap.size+1+1) v (false,false) from by
  rw [hW];exact ⟨bA (bA (bA (bR w) _) _) _,((AO.made rfl _ _).alloc _).alloc _,(AO.made Aw _ _).alloc _,AO.made Aw _ _,AB,AB,AB,AB,AB⟩)
 rw [<- hW];clear hW;go_wp2_with fail;refine (WZ.out _ _ HE.out).mono ?_;rintro e w2 ⟨rfl,he2,-⟩;have HE2:=AA he2;have X7:=he2.oU;have X8:=he2.odd;clear he2 HE WZ;have hr:=Kr.out;unfold encS SG at hr;obtain ⟨S,hS⟩:=BL ((DV p X).foldl (QS v) (false,false));rw [hS] at X7 X8 hr HE2;clear hS Kr;obtain ⟨on,od⟩:=S;simp only at X7 X8 hr;obtain ⟨EK,EL,-⟩:=X7.Fa;obtain ⟨Nc,Nh,-⟩:=X8.Fa
 cases od
 case false =>
  obtain rfl:false=R:=by simpa using hr
  clear hr;go_wp2;go_ret;exact ⟨rfl,HE2.out.b⟩
 case true =>
  obtain rfl:(!on)=R:=by simpa using hr
  clear hr;go_wp2;go_ret;exact ⟨rfl,HE2.out.b⟩
def aCs (w:World) (v:Value) (L:List AD):Prop:=Sl w v L.length (L.flatMap Di)/\∀ x∈L,Ints w (BJ x.ov) x.out
theorem Row.ad {w:World} {A:Option Addr} {l:List AD} (h:Row w A (l.flatMap Di)) {k:Nat} (hk:k<l.length) :
  ∃ b o,A=some ⟨b,o,none⟩/\b<w.heap.size/\w.cell? ⟨b,o+k*4,none⟩=some (.int .i64 l[k].tw)/\w.cell? ⟨b,o+k*4+1,none⟩=some (BJ l[k].ov)/\w.cell? ⟨b,o+k*4+2,none⟩=some (BJ l[k].iv)/\w.cell? ⟨b,o+k*4+3,none⟩=some (BJ l[k].av):=by
 obtain ⟨b,o,hA,hb,hc⟩:=h.at_ (n:=4) (fun _=>rfl) hk AB;exact ⟨b,o,hA,hb,hc 0 _ rfl,hc 1 _ rfl,hc 2 _ rfl,hc 3 _ rfl⟩
def ZG (p:Pl) (v:Pt) (L:List AD) (k b:Nat):Prop :=
 (b=0/\Je (fun x:AD=>encS p x.out v) (·.tw) (L.tail.take k)=none)\/∃ hb:b<L.length,1<=b/\b<=k/\Je (fun x:AD=>encS p x.out v) (·.tw) (L.tail.take k)=some L[b]
theorem ae9 {L:List AD} {k:Nat} (hk:k+1<L.length):L.tail.take (k+1)=L.tail.take k++[L[k+1]]:=by
 cases L with
 | nil=>cases hk
 | cons a L=>simp only [List.tail_cons,List.getElem_cons_succ];exact En (by simpa using hk)
theorem atH (p:Pl) (v:Pt) (L:List AD):ZG p v L 0 0:=.inl ⟨rfl,by rw [OB];rfl⟩
theorem akU {p:Pl} {v:Pt} {L:List AD} {k b:Nat} (h:ZG p v L k b) (hk:k+1<L.length) (hE:encS p L[k+1].out v=true) (hlt:b=0\/∃ hb:b<L.length,L[k+1].tw<L[b].tw):ZG p v L (k+1) (k+1):=by
 refine .inr ⟨hk,AB,DT _,?_⟩;rw [ae9 hk,YS];unfold RF;rcases h with ⟨rfl,e⟩ | ⟨hb,h1,h2,e⟩
 · rw [e];simp [hE]
 ·rw [e];rcases hlt with g | ⟨_,g⟩
  · omega
  · simp [hE,g]
theorem aeA {p:Pl} {v:Pt} {L:List AD} {k b:Nat} (h:ZG p v L k b) (hk:k+1<L.length) (hno:encS p L[k+1].out v=false\/(b≠0/\∃ hb:b<L.length,¬ L[k+1].tw<L[b].tw)):ZG p v L (k+1) b:=by
 rcases h with ⟨rfl,e⟩ | ⟨hb,h1,h2,e⟩
 ·refine .inl ⟨rfl,?_⟩;rw [ae9 hk,YS,e];rcases hno with g | ⟨g,-⟩
  · unfold RF;simp [g]
  · exact absurd rfl g
 ·refine .inr ⟨hb,h1,AB,?_⟩;rw [ae9 hk,YS,e];unfold RF;rcases hno with g | ⟨-,_,g⟩
  · simp [g]
  · simp [g]
theorem akV (w:World) (gm:Nat) (p:Pl) (f:Int->SV) (hpm:QT w gm p f) (hv:Valid p) (vl:Value) (L:List AD) (hL:aCs w vl L) (hd:∀ x∈L,∀ d∈x.out,d∈BU p) (hl:L.length<=1000) (v:Pt) (nv:Bg v=true) :
  Calls Tryz.prog 70 #[.map (some gm),vl,BD v] w fun e w'=>(∃ b:Nat,e=.returned (.int .i64 b)/\ZG p v L (L.length-1) b)/\AP w w':=by
 have HEn:=AA (fun k (hk:k<L.length) W (hW:AP w W)=>atG W gm p f (hpm.keep hW) hv _ L[k].out ((hL.2 _ (BH hk)).mono hW) (hd _ (BH hk)) v nv);obtain ⟨⟨Al,cl,rfl,hc1,hc2,hR⟩,-⟩:=hL;unfold maxLen at hc2;have HR:=AA hR;unfold BD at HEn ⊢;clear hR hpm hv hd nv;go_enter Tryz.func70,Tryz.ntmps70;go_upto_block 0 with fail;obtain ⟨W1,hW⟩:=BO (w.alloc (.cells #[.int .i64 v.x,.int .i64 v.y] 39));have HB1:=AA (show AP w W1 by rw [hW];exact bA (bR w) _);have D9:=AA (show AO W1 w.heap.size 39 #[.int .i64 v.x,.int .i64 v.y] by rw [hW];exact AO.made rfl _ _);rw [<- hW];clear hW;go_wp2_with fail;go_loopw [7,8] (fun s i wr=>∃ k b:Nat,(k+1<=L.length\/k=0)/\i=.int .i64 ((k:Int)+1)/\s=.int .i64 b/\ZG p v L k b/\AP W1 wr) (fun _ i _=>L.length-(intOf i).toNat)
 case atStart => exact ⟨0,0,.inr rfl,rfl,rfl,atH p v L,bR W1⟩
 case round =>
  obtain ⟨k,b,hk,rfl,rfl,hbx,hb⟩:=hrel;have LP:=AA hbx;have Hb:=AA (bT HB1.out hb);have EY:=AA hb;have X5:=D9.out.keep hb;clear hb;by_cases hlt:k+1<L.length
  ·obtain ⟨bq,oq,rfl,hlb,c0,c1,-,-⟩:=(HR.out.mono Hb.out).ad hlt;have HE:=AA (HEn.out (k+1) hlt);obtain ⟨E,hE⟩:=BL (encS p L[k+1].out v);rw [hE] at HE;have oV:=AA hE;clear hE;have k1:IntKind.i64.wrap ((k:Int)+1)=(k:Int)+1:=Ci _ AB;have k2:(k:Int)+1<L.length:=by omega
   have k3:0<=(k:Int)+1:=by omega
   have Tc:=AA (show ∀ t,L[k+1].tw=t->∀ b':Nat,b=b'->True from fun _ _ _ _=>trivial);clear Tc;rcases LP.out with ⟨hb0,-⟩ | ⟨hbl,hb1,hb2,-⟩
   ·subst hb0;have hyes:=AA (fun h=>akU LP.out hlt (oV.out.trans h) (.inl rfl));have hnot:=AA (fun h=>aeA LP.out hlt (.inl (oV.out.trans h)));generalize L[k+1].tw=t at *;generalize L[k+1].ov=sv at *;obtain ⟨sa,sn,sc⟩:=sv;unfold BJ at c1 HE;obtain ⟨CJ,CO,CS,-,-⟩:=X5.BN;go_upto_region 5 with fail;refine Cj (wr) (.run 23 0 0 (.call 23 16777215 (.take 24 33554431 (.done)))) fun Bv QR Ae Ah hS=>?_
    iterate 3 refine Aj ?_
    iterate 11 refine JU ?_
    iterate 2 refine Aj ?_
    iterate 7 refine Dh ?_
    refine FD (HE.out _ (bT Hb.out hS)) ?_;clear hS;intro Bq Bf hS;refine Aj ?_;refine Ce ?_;clear hS Ah Ae;intro hB;have CW:=AA (bT EY.out hB);clear hB c0 c1 X5 CJ CO CS
    cases E
    ·go_wp2;go_roundw
     case rel => exact ⟨k+1,0,.inl AB,BI,rfl,hnot.out rfl,CW.out⟩
     case measure => exact BK
    ·go_wp2;go_roundw
     case rel => exact ⟨k+1,k+1,.inl AB,BI,BI,hyes.out rfl,CW.out⟩
     case measure => exact BK
   ·obtain ⟨bq',kJ,hA',-,e0,-,-,-⟩:=(HR.out.mono Hb.out).ad hbl;injection hA' with hA';injection hA' with y1 y2 _;subst y1 y2;have k4:IntKind.i64.wrap (b:Int)=b:=Ci _ AB;have k5:(b:Int)<L.length:=by omega
    have k6:0<=(b:Int):=by omega
    have kb:((b:Int) == 0)=false:=by simp;omega
    have hyes:=AA (fun h g=>akU LP.out hlt (oV.out.trans h) (.inr ⟨hbl,g⟩));have hnot:=AA (fun h=>aeA LP.out hlt (.inl (oV.out.trans h)));have nZ:=AA (fun g=>aeA LP.out hlt (.inr ⟨AB,hbl,g⟩));generalize L[b].tw=tb at *;generalize L[k+1].tw=t at *;generalize L[k+1].ov=sv at *;obtain ⟨sa,sn,sc⟩:=sv;unfold BJ at c1 HE
    try clear CJ CO CS
    obtain ⟨CJ,CO,CS,-,-⟩:=X5.BN;by_cases hlt2:t<tb
    ·go_upto_region 5 with fail;refine Cj (wr) (.run 23 0 0 (.call 23 16777215 (.take 24 33554431 (.done)))) fun Bv QR Ae Ah hS=>?_
     iterate 3 refine Aj ?_
     iterate 11 refine Dh ?_
     iterate 2 refine Aj ?_
     iterate 7 refine Dh ?_
     refine FD (HE.out _ (bT Hb.out hS)) ?_;clear hS;intro Bq Bf hS;refine Aj ?_;refine Ce ?_;clear hS Ah Ae;intro hB;have CW:=AA (bT EY.out hB);clear hB c0 c1 e0 X5 CJ CO CS
     cases E
     ·go_wp2;go_roundw
      case rel => exact ⟨k+1,b,.inl AB,BI,rfl,hnot.out rfl,CW.out⟩
      case measure => exact BK
     ·go_wp2;go_roundw
      case rel => exact ⟨k+1,k+1,.inl AB,BI,BI,hyes.out rfl hlt2,CW.out⟩
      case measure => exact BK
    ·go_upto_region 5 with fail;refine Cj (wr) (.run 25 0 0 (.done)) fun Bv QR Ae Ah hS=>?_
     iterate 3 refine Aj ?_
     iterate 11 refine Dh ?_
     iterate 2 refine Aj ?_
     iterate 8 refine JU ?_
     refine Aj ?_;refine Ce ?_;clear hS Ah Ae;intro hB;have CW:=AA (bT EY.out hB);clear hB c0 c1 e0 X5 CJ CO CS;go_wp2;go_roundw
     case rel => exact ⟨k+1,b,.inl AB,BI,rfl,nZ.out hlt2,CW.out⟩
     case measure => exact BK
  ·have hkl:L.length-1=k:=by omega
   have HF:=AA hkl;clear hkl X5;go_wp2;go_ret;exact ⟨⟨b,rfl,by rw [HF.out];exact LP.out⟩,Hb.out⟩
set_option linter.unusedSectionVars false
section
variable {p:Pl} (h:Valid p)
include h
theorem Valid.xk:(BU p).length<=512:=by
 have hl:=h.lim;unfold JX at hl;simp only [Rq,J3] at hl;have h2:=hl.2;unfold BU;rw [EC,Wp,Cm,Cm];omega
theorem Valid.aCt {X:List Int} (hX:X∈CX p):Uh p X=F8 p X:=by
 obtain ⟨h1,h2⟩:=h.Gy hX;have hl:=Uy h1 h2;have h3:=h.xk;unfold Uh;rw [AZ ⟨AB,fun d hd=>h.aiL (h2 d hd)⟩,aqr p X X.length (DT _),H8];rfl
end
set_option linter.unusedSectionVars false
theorem atI {α β:Type} (f:α->β) (E:β->Bool) (t:β->Int) (l:List α):Je E t (l.map f)=(Je (fun x=>E (f x)) (fun x=>t (f x)) l).map f:=by
 induction l using aco with
 | h0=>rfl
 | h1 l x ih =>
  rw [GL,Ez,QE,YS,YS,ih];unfold RF
  cases Je (fun x=>E (f x)) (fun x=>t (f x)) l<;>simp only [Option.map]<;>split<;>rfl
theorem atJ {α:Type} {E E':α->Bool} {t t':α->Int} {l:List α} (h:∀ x∈l,E x=E' x/\t x=t' x):Je E t l=Je E' t' l:=by
 induction l using aco with
 | h0=>rfl
 | h1 l x ih =>
  have ih:=ih fun y hy=>h y (Oa _ hy);rw [YS,YS,ih];obtain ⟨e1,e2⟩:=h x (Xv _ Ea);unfold RF
  cases hb:Je E' t' l with
  | none=>simp only [e1]
  | some y =>
   have hy:=(aB9 E' t' hb).1;have e3:=(h y (Oa _ hy)).2;simp only [e1,e2,e3]
def Lp (O:List (List Int)) (i:Nat):Option (List Int):=if i=0 then none else O[i-1]?
theorem akW {O:List (List Int)} (hn:O.Nodup) {i j:Nat} (hi:i<=O.length) (hj:j<=O.length) (e:Lp O i=Lp O j):i=j:=by
 unfold Lp at e;by_cases h1:i=0
 ·by_cases h2:j=0
  · omega
  · rw [AZ h1,AX h2,DK AB] at e;cases e
 ·by_cases h2:j=0
  · rw [AX h1,AZ h2,DK AB] at e;cases e
  ·rw [AX h1,AX h2,DK AB,DK AB] at e;injection e with e;unfold List.Nodup at hn;rw [Fe] at hn;rcases PD i j with g | g | g
   · exact absurd e (hn (i-1) (j-1) AB AB AB)
   · exact g
   · exact absurd e.symm (hn (j-1) (i-1) AB AB AB)
theorem Ut {O:List (List Int)} {i:Nat} (h0:1<=i) (hi:i<=O.length):Lp O i=some (O[i-1]'(by omega)):=by
 unfold Lp;rw [AX AB,DK AB]
def RU (p:Pl) (L:List AD):Prop:=∀ i (hi:i<L.length),1<=i->L[i].tw=F8 p L[i].out
theorem RU.set {p:Pl} {L:List AD} (h:RU p L) {b:Nat} {y:AD} (hb:b<L.length) (h1:y.tw=L[b].tw) (h2:y.out=L[b].out):RU p (L.set b y):=by
 intro i hi hi1;simp only [Qm] at hi;rw [QG];split
 · rename_i e;subst e;rw [h1,h2];exact h b hb hi1
 · exact h i hi hi1
theorem RU.more {p:Pl} {L:List AD} (h:RU p L) {x:AD} (h1:x.tw=F8 p x.out):RU p (L++[x]):=by
 intro i hi hi1;by_cases e:i<L.length
 · rw [List.getElem_append_left e];exact h i e hi1
 ·have:i=L.length:=by simp at hi;omega
  subst this;simpa using h1
theorem RU.one (p:Pl) (x:AD):RU p [x]:=fun i hi hi1=>by simp at hi;omega
structure FX (p:Pl) (L:List AD) (O R:List (List Int)) (N:List Nd):Prop where
 out:L.map (·.out)=[]::O
 inn:∀ i (hi:i<L.length),L[i].inn.map (·.1)=R.filter (fun c=>decide (I4 p (TB p c)=Lp O i))
 CU:∀ i (hi:i<L.length),L[i].CU=(N.filter (fun n=>decide (Na p.AU n.id=0/\I4 p n.pt=Lp O i))).map (·.id)
section
variable {p:Pl} {L:List AD} {O R:List (List Int)} {N:List Nd} (h:FX p L O R N)
include h
theorem FX.len:L.length=O.length+1:=by
 have:=congrArg List.length h.out
 simpa using this
theorem FX.aP {i:Nat} (hi:i<L.length) (h1:1<=i):L[i].out=O[i-1]'(by have:=h.len;omega):=by
 have e:(L.map (·.out))[i]'(by simpa using hi)=L[i].out:=by rw [Gq]
 rw [<- e];have h2:=h.out;obtain ⟨j,rfl⟩:∃ j,i=j+1:=⟨i-1,AB⟩;simp only [h2,List.getElem_cons_succ,Ze]
theorem FX.akX (h0:0<L.length):L[0].out=[]:=by
 have e:(L.map (·.out))[0]'(by simpa using h0)=L[0].out:=by rw [Gq]
 rw [<- e];have h2:=h.out;simp only [h2,List.getElem_cons_zero]
theorem FX.aCu {x:AD} (hx:x∈L):x.out=[]\/x.out∈O:=by
 have:x.out∈L.map (·.out):=Gs hx
 rw [h.out] at this;rcases EJ.1 this with e | e
 · exact .inl e
 · exact .inr e
theorem FX.more (hR:R=[]) (hN:N=[]) (x:AD) (h2:x.inn=[]) (h3:x.CU=[]):FX p (L++[x]) (O++[x.out]) R N:=by
 subst hR hN;have hl:=h.len;refine ⟨by rw [GL,h.out];rfl,fun i hi=>?_,fun i hi=>?_⟩
 ·by_cases e:i<L.length
  · rw [List.getElem_append_left e,h.inn i e];rfl
  ·have:i=L.length:=by simp at hi;omega
   subst this;simp [h2]
 ·by_cases e:i<L.length
  · rw [List.getElem_append_left e,h.CU i e];rfl
  ·have:i=L.length:=by simp at hi;omega
   subst this;simp [h3]
theorem FX.inner (hn:O.Nodup) {b:Nat} (hb:b<L.length) (c:List Int) (sv Ox:SV) (hh:I4 p (TB p c)=Lp O b) :
  FX p (L.set b {L[b] with inn:=L[b].inn++[(c,sv)],iv:=Ox}) O (R++[c]) N:=by
 have hl:=h.len;refine ⟨?_,fun i hi=>?_,fun i hi=>?_⟩
 ·rw [<- h.out];apply U6 Aw;intro i h1 h2;rw [Gq,Gq,QG];split
  · rename_i e;subst e;rfl
  · rfl
 ·simp only [Qm] at hi;rw [QG,rX];split
  ·rename_i e;subst e;rw [GL,h.inn b hb,fQ,AZ (by simpa using hh)];rfl
  ·rename_i e;rw [h.inn i hi,fQ,AX (by
    rw [E8,hh];exact fun g=>e (akW hn AB AB g)),aaw,IQ]
 ·simp only [Qm] at hi;rw [QG];split
  · rename_i e;subst e;exact h.CU b hb
  · exact h.CU i hi
theorem FX.lone (hn:O.Nodup) {b:Nat} (hb:b<L.length) (n:Nd) (OV:SV) (h0:Na p.AU n.id=0) (hh:I4 p n.pt=Lp O b) :
  FX p (L.set b {L[b] with CU:=L[b].CU++[n.id],av:=OV}) O R (N++[n]):=by
 have hl:=h.len;refine ⟨?_,fun i hi=>?_,fun i hi=>?_⟩
 ·rw [<- h.out];apply U6 Aw;intro i h1 h2;rw [Gq,Gq,QG];split
  · rename_i e;subst e;rfl
  · rfl
 ·simp only [Qm] at hi;rw [QG];split
  · rename_i e;subst e;exact h.inn b hb
  · exact h.inn i hi
 ·simp only [Qm] at hi;rw [QG,rX];split
  ·rename_i e;subst e;rw [GL,h.CU b hb,fQ,AZ (by rw [E8];exact ⟨h0,hh⟩)];rfl
  ·rename_i e;rw [h.CU i hi,fQ,AX (by
    rw [E8,hh];exact fun g=>e (akW hn AB AB g.2)),aaw,IQ]
theorem FX.pass (n:Nd) (h0:Na p.AU n.id≠0):FX p L O R (N++[n]) :=
 ⟨h.out,h.inn,fun i hi=>by
  rw [h.CU i hi,rX,fQ,AX (by rw [E8];exact fun g=>h0 g.1),aaw,IQ]⟩
theorem FX.home (hO:O=Bj p) (hT:RU p L) {v:Pt} {b:Nat} (hb:ZG p v L (L.length-1) b):b<L.length/\I4 p v=Lp O b:=by
 have hl:=h.len;have ht:L.tail.take (L.length-1)=L.tail:=Hw Aw;have hm:L.tail.map (·.out)=O:=by rw [List.map_tail,h.out];rfl
 have e1:I4 p v=(Je (fun x:AD=>encS p x.out v) (fun x:AD=>x.tw) L.tail).map (·.out):=by
  unfold I4;rw [<- hO,<- hm,atI];congr 1;refine atJ fun x hx=>⟨rfl,?_⟩;obtain ⟨i,hi,rfl⟩:=Dp.1 hx;rw [List.getElem_tail];simp only [List.length_tail] at hi;exact (hT (i+1) AB AB).symm
 unfold ZG at hb;rw [ht] at hb;rcases hb with ⟨rfl,e⟩ | ⟨hbl,h1,h2,e⟩
 ·rw [e] at e1;exact ⟨AB,by rw [e1];rfl⟩
 ·rw [e] at e1;refine ⟨hbl,?_⟩;rw [e1,Ut h1 AB]
  show some L[b].out=_
  rw [h.aP hbl h1]
end
theorem FX.start (p:Pl) (x:AD) (h1:x.out=[]) (h2:x.inn=[]) (h3:x.CU=[]):FX p [x] [] [] []:=by
 refine ⟨by simp [h1],fun i hi=>?_,fun i hi=>?_⟩
 ·have:i=0:=by simp at hi;omega
  subst this;simp [h2]
 ·have:i=0:=by simp at hi;omega
  subst this;simp [h3]
section
variable {p:Pl} (h:Valid p)
include h
theorem Valid.Wh {X:List Int} (hX:X∈CX p):X≠[]:=fun e=>by
 obtain ⟨x,-,-,-,hx⟩:=h.Ph hX;rw [e] at hx;cases hx
theorem Valid.atK:(CX p).Nodup:=by
 have hp:=h.ada.nodup_iff.2 h.wK;have hd:(CX p).Pairwise (fun a b=>∀ x∈a,∀ y∈b,x≠y):=by
  have h2:=abb.1 hp;exact h2.2
 unfold List.Nodup;refine abd (fun {a b} ha hb hab e=>?_) hd;subst e;have hne:=h.Wh ha
 cases a with
 | nil=>exact hne rfl
 | cons x a=>exact hab x Ea x Ea rfl
theorem Valid.QY:(CX p).length<=512:=by
 have:∀ L:List (List Int),(∀ X∈L,X≠[])->L.length<=L.flatten.length:=by
  intro L
  induction L with
  | nil=>intro _;exact DT _
  | cons X L ih =>
   intro hL;have h1:=ih fun Y hY=>hL Y (Gn _ hY);have h2:=fV.2 (hL X Ea);rw [List.flatten_cons,EC,I9];omega
 have h1:=this (CX p) fun X hX=>h.Wh hX;have h2:=h.ada.length_eq;have h3:=h.xk;omega
theorem Valid.aeB:p.faces.Pairwise (· < ·):=by
 have ho:=h.ord;unfold Qw at ho;rw [Em,Em] at ho;exact uo _ ho.2
theorem Valid.akY {f:Int} (hf:f∈p.faces):1<=f/\f<=1073741824:=by
 have hr:=h.rng;unfold OE at hr;rw [Em] at hr;have h1:=hr.1;rw [Ru,Xu] at h1;have:=h1 f (Xv _ hf)
 unfold KA at this;simp only [L6,E8,not_or] at this;omega
theorem Valid.aeC (d:Int):Es p d=0\/Es p d∈p.faces:=by
 have hs:=h.sides;unfold Ue at hs;rw [JF] at hs;have hf:∀ n,FI p.faces n=true->n=0\/n∈p.faces:=fun n hn=>by
  unfold FI at hn;rw [L6,PE] at hn;rcases hn with ⟨x,hx,e⟩ | e
  · have:=eq_of_beq e;subst this;exact .inr hx
  · exact .inl (eq_of_beq e)
 unfold Es;split
 · exact .inl rfl
 ·rename_i a e;have ha:a∈p.AU:=by
   unfold FW at e;split at e
   · cases e
   · exact VG e
  have:=hs a ha
  rw [Em] at this;split
  · exact hf _ this.1
  · exact hf _ this.2
theorem Valid.atL (d:Int):0<=Es p d/\Es p d<=1073741824:=by
 rcases h.aeC d with e | e
 · omega
 · have:=h.akY e;omega
theorem Valid.aeD:(Bj p).Nodup:=h.atK.filter _
end
def GI (p:Pl) (O:List (List Int)) (i:Nat):Int:=KH p (Lp O i)
def MP (p:Pl) (O:List (List Int)) (i:Nat):List (List Int):=Jq p (Lp O i)
structure Oy (p:Pl) (O:List (List Int)) (k:Nat):Prop where
 some:∀ i,1<=i->i<k->GI p O i≠0
 differ:∀ i j,1<=i->i<j->j<k->GI p O i≠GI p O j
 sides:∀ i,i<k->∀ c∈MP p O i,∀ d∈c,Es p d=GI p O i
theorem Oy.zero (p:Pl) (O:List (List Int)):Oy p O 0:=⟨fun i _ h=>by omega,fun i j _ _ h=>by omega,fun i h=>by omega⟩
def GK (p:Pl) (O:List (List Int)) (k:Nat):List Int:=(List.range (k-1)).map fun i=>GI p O (i+1)
theorem ajn (p:Pl) (O:List (List Int)) {k:Nat} (h:1<=k):GK p O (k+1)=GK p O k++[GI p O k]:=by
 unfold GK;rw [show k+1-1=(k-1)+1 by omega,Zf,GL];simp only [Ez,QE];rw [show k-1+1=k by omega]
theorem aeE {p:Pl} {O:List (List Int)} {k:Nat} {x:Int}:x∈GK p O k↔∃ i,1<=i/\i<k/\GI p O i=x:=by
 unfold GK;rw [EM];constructor
 ·rintro ⟨i,hi,rfl⟩;rw [F5] at hi;exact ⟨i+1,AB,AB,rfl⟩
 ·rintro ⟨i,h1,h2,rfl⟩;exact ⟨i-1,by rw [F5];omega,by rw [show i-1+1=i by omega]⟩
theorem aCv (p:Pl) (O:List (List Int)) (k:Nat):(GK p O k).length=k-1:=by unfold GK;simp
theorem Oy.succ {p:Pl} {O:List (List Int)} {k:Nat} (h:Oy p O k) (h1:1<=k->GI p O k≠0) (h2:1<=k->GI p O k∉GK p O k) (h3:∀ c∈MP p O k,∀ d∈c,Es p d=GI p O k):Oy p O (k+1):=by
 refine ⟨fun i hi hk=>?_,fun i j hi hj hk=>?_,fun i hi=>?_⟩
 ·by_cases e:i=k
  · subst e;exact h1 hi
  · exact h.some i hi AB
 ·by_cases e:j=k
  ·subst e;exact fun g=>h2 AB (aeE.2 ⟨i,hi,hj,g⟩)
  · exact h.differ i j hi hj AB
 ·by_cases e:i=k
  · subst e;exact h3
  · exact h.sides i AB
theorem ZH {p:Pl} {O:List (List Int)} {i:Nat} (h1:1<=i) (hi:i<=O.length):GI p O i=Es p ((O[i-1]'(by omega)).headD 0):=by
 unfold GI;rw [Ut h1 hi];rfl
theorem Oy.iff {p:Pl} {O:List (List Int)} (hp:O.Perm (Bj p)):jX p↔Oy p O (O.length+1)/\O.length=p.faces.length:=by
 constructor
 ·intro h;refine ⟨⟨fun i h1 h2=>?_,fun i j h1 h2 h3=>?_,fun i hi=>?_⟩,by rw [hp.length_eq];exact h.all⟩
  ·rw [ZH h1 AB];exact h.some _ (hp.subset (BH _))
  ·rw [ZH h1 AB,ZH AB AB];intro e;have hd:=(hp.map (fun X=>Es p (X.headD 0))).nodup_iff.2 h.differ;unfold List.Nodup at hd;rw [IL,Fe] at hd;exact hd (i-1) (j-1) AB AB AB e
  ·refine h.sides _ ?_;by_cases e:i=0
   · subst e;exact .inl rfl
   ·rw [Ut AB AB];exact .inr ⟨_,hp.subset (BH _),rfl⟩
 ·rintro ⟨h,ha⟩;refine ⟨fun X hX=>?_,?_,fun b hb=>?_,by rw [<- hp.length_eq];exact ha⟩
  ·obtain ⟨i,hi,rfl⟩:=Dp.1 (hp.symm.subset hX);have:=h.some (i+1) AB AB
   rw [ZH AB AB] at this;exact this
  ·refine (hp.map (fun X=>Es p (X.headD 0))).nodup_iff.1 ?_;unfold List.Nodup;rw [IL,Fe];intro i j hi hj hij;have:=h.differ (i+1) (j+1) AB AB AB
   rw [ZH AB AB,ZH AB AB] at this;exact this
  ·rcases hb with rfl | ⟨X,hX,rfl⟩
   · exact h.sides 0 AB
   ·obtain ⟨i,hi,rfl⟩:=Dp.1 (hp.symm.subset hX);have:=h.sides (i+1) AB
    unfold MP GI at this;rw [Ut AB AB] at this;exact this
def Ji (p:Pl):List (Option (List Int)):=none::(Bj p).map some
def NP (p:Pl):Bool:=(Bj p).all (fun X=>Es p (X.headD 0) != 0) && decide ((Bj p).map (fun X=>Es p (X.headD 0))).Nodup && (Ji p).all (fun b=>(Jq p b).all fun c=>c.all fun d=>Es p d == KH p b) && decide ((Bj p).length=p.faces.length)
theorem aeF {p:Pl}:NP p=true↔jX p:=by
 unfold NP Ji;simp only [Em,E8,JF,EJ,EM,bne_iff_ne,beq_iff_eq];constructor
 ·rintro ⟨⟨⟨h1,h2⟩,h3⟩,h4⟩;refine ⟨h1,h2,fun b hb=>h3 b ?_,h4⟩;rcases hb with h | ⟨X,hX,h⟩
  · exact .inl h
  · exact .inr ⟨X,hX,h.symm⟩
 ·rintro ⟨h1,h2,h3,h4⟩;refine ⟨⟨⟨h1,h2⟩,fun b hb=>h3 b ?_⟩,h4⟩;rcases hb with h | ⟨X,hX,h⟩
  · exact .inl h
  · exact .inr ⟨X,hX,h.symm⟩
theorem aeG {p:Pl} {O:List (List Int)} (hp:O.Perm (Bj p)):NP p=true↔Oy p O (O.length+1)/\O.length=p.faces.length:=aeF.trans (Oy.iff hp)
def Gl (a b:Pt):Pt:=if b.y<a.y then b else a
def JH (a b:Pt):Pt:=if b.y<a.y then a else b
def Wi (y:Int) (a b:Pt):Int:=SH ((y-(Gl a b).y)*((JH a b).x-(Gl a b).x)) ((JH a b).y-(Gl a b).y)
def IX (y:Int) (q:Pt×Pt):List Int:=if (Gl q.1 q.2).y<=y/\y<(JH q.1 q.2).y then [(Gl q.1 q.2).x+Wi y q.1 q.2] else []
def Q5 (y:Int) (q:Pt×Pt):List Rn :=
 if y<(Gl q.1 q.2).y\/(JH q.1 q.2).y<y then []
 else if (Gl q.1 q.2).y=(JH q.1 q.2).y then [⟨min (Gl q.1 q.2).x (JH q.1 q.2).x,max (Gl q.1 q.2).x (JH q.1 q.2).x+1⟩]
 else if Wi y q.1 q.2*((JH q.1 q.2).y-(Gl q.1 q.2).y)=(y-(Gl q.1 q.2).y)*((JH q.1 q.2).x-(Gl q.1 q.2).x) then [⟨(Gl q.1 q.2).x+Wi y q.1 q.2,(Gl q.1 q.2).x+Wi y q.1 q.2+1⟩]
 else []
def Jj:List Int->List Rn
 | a::b::l=>J9 a b++Jj l
 | _=>[]
def Q7 (ns:List Nd) (y id:Int):List Rn:=match JK ns id with
 | some n=>if n.pt.y=y then [⟨n.pt.x,n.pt.x+1⟩] else []
 | none=>[]
def kP (a:Int):List Int->List Int
 | []=>[a]
 | b::l=>if a<=b then a::b::l else b::kP a l
def aQ (l:List Int):List Int:=l.foldr kP []
theorem aeH (a:Int):∀ l,(kP a l).Perm (a::l)
 | []=>List.Perm.refl _
 | b::l=>by
  unfold kP;split
  · exact List.Perm.refl _
  · exact ((aeH a l).cons b).trans (List.Perm.swap _ _ _)
theorem ajo (a:Int):∀ l,l.Pairwise (·<=·)->(kP a l).Pairwise (·<=·)
 | [],_=>by unfold kP;simp
 | b::l,h=>by
  have h':=JC.1 h;unfold kP;split
  ·rename_i e;rw [JC];refine ⟨fun y hy=>?_,h⟩;rcases EJ.1 hy with rfl | hy
   · exact e
   · have:=h'.1 y hy;omega
  ·rename_i e;rw [JC];refine ⟨fun y hy=>?_,ajo a l h'.2⟩;rcases EJ.1 ((aeH a l).subset hy) with rfl | hy
   · omega
   · exact h'.1 y hy
theorem aBj:∀ l,(aQ l).Perm l/\(aQ l).Pairwise (·<=·)
 | []=>⟨List.Perm.refl _,List.Pairwise.nil⟩
 | a::l=>by
  obtain ⟨h1,h2⟩:=aBj l;exact ⟨(aeH a _).trans (h1.cons a),ajo a _ h2⟩
theorem atM {l m:List Int} (hp:m.Perm l) (hs:m.Pairwise (·<=·)):m=aQ l:=by
 refine iF (lt:=fun a b=>decide (a<b)) (hp.trans (aBj l).1.symm) (hs.imp (fun h=>by simp;omega)) ((aBj l).2.imp (fun h=>by simp;omega)) (fun a _ b _ h1 h2=>?_);simp only [J3] at h1 h2;omega
theorem atN (l:List Int):Py l=aQ l:=atM (adz l) (akD l)
def ash (S:List (Pt×Pt)) (T:List Rn) (y:Int):List Rn:=OO (Pn (Jj (aQ (S.flatMap (IX y))))) (Pn (S.flatMap (Q5 y)++T))
def Gz (p:Pl) (b:Option (List Int)):List (Pt×Pt):=(Jq p b).flatMap (DV p)
def aS (p:Pl) (b:Option (List Int)) (y:Int):List Rn:=(ak p b).flatMap (Q7 p.nodes y)
def Uu (p:Pl) (b:Option (List Int)) (y:Int):List Rn:=ash (Gz p b) (aS p b y) y
def aeI (s:Int×Option Int) (x:Rn):Int×Option Int:=if s.1<x.hi-x.lo then (x.hi-x.lo,some ((x.lo+x.hi-1) / 2)) else s
def aT (l:List Rn):Int×Option Int:=l.foldl aeI (0,none)
def midRow (p:Pl) (b:Option (List Int)) (y0 y1 y:Int):Option Pt:=if y<y0\/y1<y then none else ((aT (Uu p b y)).2).map fun x=>⟨x,y⟩
def midD (p:Pl) (b:Option (List Int)) (y0 y1 m:Int) (d:Nat):Option Pt:=(midRow p b y0 y1 (m+d)).or (midRow p b y0 y1 (m-d))
def aBk (p:Pl) (b:Option (List Int)) (y0 y1:Int):Option Pt:=(List.range (y1-y0+2).toNat).findSome? (midD p b y0 y1 ((y0+y1) / 2))
def kQ (p:Pl) (f:Int):Option (List Int):=(Bj p).find? fun X=>KH p (some X) == f
def Kv (S:List (Pt×Pt)):List Pt:=S.flatMap fun q=>[q.1,q.2]
def kT (p:Pl) (f:Int):Option Pt:=match kQ p f with
 | none=>none
 | some X=>aBk p (some X) (Ou (Kv (DV p X))).y0 (Ou (Kv (DV p X))).y1
