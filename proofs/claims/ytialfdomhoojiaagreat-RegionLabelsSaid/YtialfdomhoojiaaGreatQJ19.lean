import Derived.Test.YtialfdomhoojiaaGreatQJ18
set_option linter.unusedSimpArgs false
set_option linter.unusedVariables false
set_option maxRecDepth 100000
set_option maxHeartbeats 8000000
namespace Go.Proofs.YtialfdomhoojiaaGreat
open Go.RowKit
structure TQ (w0 W:World) (g1 g2 g3:Nat) (v:Pt) (s:Bool×Bool):Prop where
 b:AU w0 W
 at_:AO W g1 39 #[.int .i64 v.x,.int .i64 v.y]
 qU:AO W g2 4 #[.bool s.1]
 odd:AO W g3 4 #[.bool s.2]
 l2:w0.heap.size<=g2
 l3:w0.heap.size<=g3
 n12:g1≠g2
 n13:g1≠g3
 n23:g2≠g3
theorem TQ.keep {w0 W W':World} {g1 g2 g3:Nat} {v:Pt} {s:Bool×Bool} (h:TQ w0 W g1 g2 g3 v s) (hb:AU W W'):TQ w0 W' g1 g2 g3 v s :=
 ⟨bT h.b hb,h.at_.keep hb,h.qU.keep hb,h.odd.keep hb,h.l2,h.l3,h.n12,h.n13,h.n23⟩
theorem TQ.arR {w0 W:World} {g1 g2 g3:Nat} {v:Pt} {s:Bool×Bool} (h:TQ w0 W g1 g2 g3 v s) (x:Bool):TQ w0 (W.setCell ⟨g2,0,none⟩ (.bool x)) g1 g2 g3 v (x,s.2) :=
 ⟨bS h.b h.l2 _,h.at_.far h.n12 _,by have:=h.qU.EI 0 (.bool x);simpa using this,h.odd.far (fun e=>h.n23 e.symm) _,h.l2,h.l3,h.n12,h.n13,h.n23⟩
theorem TQ.aiW {w0 W:World} {g1 g2 g3:Nat} {v:Pt} {s:Bool×Bool} (h:TQ w0 W g1 g2 g3 v s) (x:Bool):TQ w0 (W.setCell ⟨g3,0,none⟩ (.bool x)) g1 g2 g3 v (s.1,x) :=
 ⟨bS h.b h.l3 _,h.at_.far h.n13 _,h.qU.far h.n23 _,by have:=h.odd.EI 0 (.bool x);simpa using this,h.l2,h.l3,h.n12,h.n13,h.n23⟩
theorem arS {a b c:Pt} (h:EN [a,b,c]=true):(0<FQ a b c↔0<tw a b c)/\(FQ a b c<0↔tw a b c<0):=by
 unfold FQ Yq;rw [AZ h];split
 · omega
 · split<;>omega
theorem arT (w0 W:World) (g1 g2 g3:Nat) (v a b:Pt) (s:Bool×Bool) (h:TQ w0 W g1 g2 g3 v s) (na:C9 a=true) (nb:C9 b=true) (nv:C9 v=true) :
  Calls Tryz.prog 199 #[BA a,BA b,.pointer (some ⟨g1,0,none⟩),.pointer (some ⟨g2,0,none⟩),.pointer (some ⟨g3,0,none⟩)] W fun e W'=>e=.returned (.tuple #[])/\TQ w0 W' g1 g2 g3 v (QX v s (a,b))/\Below w0.heap.size W W':=by
 have TO:=fun W=>tJ a b v W;have TS:=fun W=>ag2 a b v W;obtain ⟨p1,p2⟩:=arS (a:=a) (b:=b) (c:=v) (by simp [EN,na,nb,nv]);have hz0:=h.b.size;unfold BA at TO TS ⊢;have HO:=AA TO;have HS:=AA TS;have HI:=AA h;clear TO TS na nb nv;obtain ⟨R,hR⟩:=BN (QX v s (a,b));rw [hR];unfold QX J6 at hR;simp only at hR;have hl1:=h.at_.lt;have hl2:=h.qU.lt;have hl3:=h.odd.lt;go_enter Tryz.func199,Tryz.ntmps199;go_upto_block 0 with fail;obtain ⟨W1,hW⟩:=BR ((W.alloc (.cells #[.int .i64 a.x,.int .i64 a.y] 39)).alloc (.cells #[.int .i64 b.x,.int .i64 b.y] 39));have HB1:=AA (show AU W W1 by rw [hW];exact bA (bA (bR W) _) _);have X5:AO W1 W.heap.size 39 #[.int .i64 a.x,.int .i64 a.y]:=by rw [hW];exact (AO.made rfl _ _).alloc _
 have X6:AO W1 (W.heap.size+1) 39 #[.int .i64 b.x,.int .i64 b.y]:=by rw [hW];exact AO.made Ak _ _
 rw [<- hW];clear hW h;have HI1:=AA (HI.out.keep HB1.out);have DI:=AA X5;have IX:=AA X6;have X1:=HI1.out.at_;have RP:=AA hR;clear hR;obtain ⟨BF,BG,BH,-,-⟩:=X1.BQ;obtain ⟨CJ,CO,CS,-,-⟩:=X5.BQ;obtain ⟨EK,EL,EM,-,-⟩:=X6.BQ;go_wp2_with fail;refine (HO.out _).mono ?_;rintro e w2 ⟨rfl,hb2⟩;have HI2:=AA (HI1.out.keep hb2);have HB2:=AA (Below.trans (HB1.out.mono hz0) (hb2.mono (by have:=HB1.out.size;omega)));have qV:=AA (DI.out.keep hb2);have arU:=AA (IX.out.keep hb2);have hz2:=hb2.size;clear hb2 X1 BF BG BH X5 CJ CO CS X6 EK EL EM DI IX HI1 HB1 HO;have hR:=RP.out;clear RP;obtain ⟨o,ho⟩:=BN (Ea a b v);rw [ho] at hR ⊢;clear ho
 cases o
 case true =>
  rw [AZ rfl] at hR;have HF:=AA (HI2.out.arR true);rw [hR] at HF;have X2:=HI2.out.qU;have kP:=AA (HB2.out.setCell (p:=⟨g2,0,none⟩) HI2.out.l2 (.bool true));clear hR;obtain ⟨BU,BX,Qp⟩:=X2.Fb;go_wp2_with fail;exact bodyPost_end (v:=.tuple #[]) (results_none rfl _ _ _) rfl ⟨rfl,HF.out,kP.out⟩
 case false =>
  rw [AX Aw] at hR;obtain ⟨sd,hsd⟩:=BN (FQ a b v);rw [hsd] at HS p1 p2;clear hsd;have X1:=HI2.out.at_;have X5:=qV.out;have X6:=arU.out
  try clear BF BG BH
  obtain ⟨BF,BG,BH,-,-⟩:=X1.BQ
  try clear CJ CO CS
  obtain ⟨CJ,CO,CS,-,-⟩:=X5.BQ
  try clear EK EL EM
  obtain ⟨EK,EL,EM,-,-⟩:=X6.BQ;by_cases c:(a.y<=v.y/\v.y<b.y)\/(b.y<=v.y/\v.y<a.y)
  case neg =>
   have hf:s=R:=by
    rw [Gg AB] at hR;simpa using hR
   have HF:=AA hf;clear hR hf p1 p2;by_cases c1:a.y<=v.y
   ·have c2:¬ v.y<b.y:=by omega
    by_cases d1:b.y<=v.y
    ·have d2:¬ v.y<a.y:=by omega
     clear c;go_wp2_with fail;exact bodyPost_end (v:=.tuple #[]) (results_none rfl _ _ _) rfl ⟨rfl,by rw [<- HF.out];exact HI2.out,HB2.out⟩
    · omega
   ·have d2:v.y<a.y:=by omega
    have d1:¬ b.y<=v.y:=by omega
    clear c;go_wp2_with fail;exact bodyPost_end (v:=.tuple #[]) (results_none rfl _ _ _) rfl ⟨rfl,by rw [<- HF.out];exact HI2.out,HB2.out⟩
  case pos =>
   have arV:=AA X1;have arW:=AA X5;have arX:=AA X6;rcases c with ⟨c1,c2⟩ | ⟨d1,d2⟩
   ·have d1:¬ b.y<=v.y:=by omega
    go_wp2_with fail;refine (HS.out _).mono ?_;rintro e w3 ⟨rfl,hb3⟩;have HI3:=AA (HI2.out.keep hb3);have hz3:=hb3.size;have HB3:=AA (Below.trans HB2.out (hb3.mono AB));have X1:=arV.out.keep hb3;have X5:=arW.out.keep hb3;have X6:=arX.out.keep hb3;clear hb3
    try clear BF BG BH
    obtain ⟨BF,BG,BH,-,-⟩:=X1.BQ
    try clear CJ CO CS
    obtain ⟨CJ,CO,CS,-,-⟩:=X5.BQ
    try clear EK EL EM
    obtain ⟨EK,EL,EM,-,-⟩:=X6.BQ;by_cases g:0<sd
    ·have hf:(s.1,!s.2)=R:=by
      rw [JO AB] at hR;simpa using hR
     have HF:=AA (HI3.out.aiW (!s.2));rw [hf] at HF;have kP:=AA (HB3.out.setCell (p:=⟨g3,0,none⟩) HI3.out.l3 (.bool (!s.2)));have X3:=HI3.out.odd;obtain ⟨s1,s2⟩:=s;simp only at X3 HF kP;clear hR hf p1 p2;obtain ⟨Dk,EJ,dQ⟩:=X3.Fb
     cases s2
     all_goals
      go_wp2_with fail;exact bodyPost_end (v:=.tuple #[]) (results_none rfl _ _ _) rfl ⟨rfl,HF.out,kP.out⟩
    ·have hf:s=R:=by
      rw [Gg AB] at hR;simpa using hR
     have HF:=AA hf;clear hR hf p1 p2;go_wp2_with fail;exact bodyPost_end (v:=.tuple #[]) (results_none rfl _ _ _) rfl ⟨rfl,by rw [<- HF.out];exact HI3.out,HB3.out⟩
   ·have c0:¬ (a.y<=v.y):=by omega
    go_wp2_with fail;refine (HS.out _).mono ?_;rintro e w3 ⟨rfl,hb3⟩;have HI3:=AA (HI2.out.keep hb3);have hz3:=hb3.size;have HB3:=AA (Below.trans HB2.out (hb3.mono AB));clear hb3;by_cases g:sd<0
    ·have hf:(s.1,!s.2)=R:=by
      rw [JO AB] at hR;simpa using hR
     have HF:=AA (HI3.out.aiW (!s.2));rw [hf] at HF;have kP:=AA (HB3.out.setCell (p:=⟨g3,0,none⟩) HI3.out.l3 (.bool (!s.2)));have X3:=HI3.out.odd;obtain ⟨s1,s2⟩:=s;simp only at X3 HF kP;clear hR hf p1 p2
     try clear Dk EJ
     try clear dQ
     obtain ⟨Dk,EJ,dQ⟩:=X3.Fb
     cases s2
     all_goals
      go_wp2_with fail;exact bodyPost_end (v:=.tuple #[]) (results_none rfl _ _ _) rfl ⟨rfl,HF.out,kP.out⟩
    ·have hf:s=R:=by
      rw [Gg AB] at hR;simpa using hR
     have HF:=AA hf;clear hR hf p1 p2;go_wp2_with fail;exact bodyPost_end (v:=.tuple #[]) (results_none rfl _ _ _) rfl ⟨rfl,by rw [<- HF.out];exact HI3.out,HB3.out⟩
theorem atD (w:World) (gm:Nat) (p:Pl) (f:Int->SV) (hpm:Qe w gm p f) (hv:Valid p) (vc:Value) (X:List Int) (hX:Ints w vc X) (hd:∀ d∈X,d∈Bh p) (v:Pt) (nv:C9 v=true) :
  Calls Tryz.prog 135 #[.map (some gm),vc,BA v] w fun e w'=>e=.returned (.bool (encS p X v))/\AU w w':=by
 have WG:=AA (fun s W (h0:TQ w W w.heap.size (w.heap.size+1) (w.heap.size+1+1) v s)=>arQ w gm p f hpm hv vc X hX hd w.heap.size (w.heap.size+1) (w.heap.size+1+1) (fun s W=>TQ w W w.heap.size (w.heap.size+1) (w.heap.size+1+1) v s) (QX v) (fun s W h=>h.b) (fun s W h=>h.keep (bD (bR W)))
  (fun s W q hq h=>by
   obtain ⟨a,ha,-,k,hk,rfl⟩:=hv.aCj hd hq;exact arT w W _ _ _ v _ _ s h (hv.Dj ha AB) (hv.Dj ha hk) nv) s W h0)
 unfold BA;obtain ⟨R,hR⟩:=BN (encS p X v);rw [hR];have RP:=AA hR;clear hR hpm hv hX hd nv;go_enter Tryz.func135,Tryz.ntmps135;go_upto_region 2 with fail;obtain ⟨W1,hW⟩:=BR (((w.alloc (.cells #[.int .i64 v.x,.int .i64 v.y] 39)).alloc (.cells #[.bool false] 4)).alloc (.cells #[.bool false] 4));have HE:=AA (show TQ w W1 w.heap.size (w.heap.size+1) (w.heap.size+1+1) v (false,false) from by
  rw [hW];exact ⟨bA (bA (bA (bR w) _) _) _,((AO.made rfl _ _).alloc _).alloc _,(AO.made Ak _ _).alloc _,AO.made Ak _ _,AB,AB,AB,AB,AB⟩)
 rw [<- hW];clear hW;go_wp2_with fail;refine (WG.out _ _ HE.out).mono ?_;rintro e w2 ⟨rfl,he2,-⟩;have HE2:=AA he2;have X7:=he2.qU;have X8:=he2.odd;clear he2 HE WG;have hr:=RP.out;unfold encS TG at hr;obtain ⟨S,hS⟩:=BN ((DV p X).foldl (QX v) (false,false));rw [hS] at X7 X8 hr HE2;clear hS RP;obtain ⟨on,od⟩:=S;simp only at X7 X8 hr;obtain ⟨Eb,Ec,-⟩:=X7.Fb;obtain ⟨OI,OY,-⟩:=X8.Fb
 cases od
 case false =>
  obtain rfl:false=R:=by simpa using hr
  clear hr;go_wp2;go_ret;exact ⟨rfl,HE2.out.b⟩
 case true =>
  obtain rfl:(!on)=R:=by simpa using hr
  clear hr;go_wp2;go_ret;exact ⟨rfl,HE2.out.b⟩
def aBo (w:World) (v:Value) (L:List AD):Prop:=Sl w v L.length (L.flatMap E8)/\∀ x∈L,Ints w (BK x.ov) x.out
theorem Row.ad {w:World} {A:Option Addr} {l:List AD} (h:Row w A (l.flatMap E8)) {k:Nat} (hk:k<l.length) :
  ∃ b o,A=some ⟨b,o,none⟩/\b<w.heap.size/\w.cell? ⟨b,o+k*4,none⟩=some (.int .i64 l[k].tw)/\w.cell? ⟨b,o+k*4+1,none⟩=some (BK l[k].ov)/\w.cell? ⟨b,o+k*4+2,none⟩=some (BK l[k].iv)/\w.cell? ⟨b,o+k*4+3,none⟩=some (BK l[k].av):=by
 obtain ⟨b,o,hA,hb,hc⟩:=h.at_ (n:=4) (fun _=>rfl) hk AB;exact ⟨b,o,hA,hb,hc 0 _ rfl,hc 1 _ rfl,hc 2 _ rfl,hc 3 _ rfl⟩
def Zd (p:Pl) (v:Pt) (L:List AD) (k b:Nat):Prop :=
 (b=0/\Jm (fun x:AD=>encS p x.out v) (·.tw) (L.tail.take k)=none)\/∃ hb:b<L.length,1<=b/\b<=k/\Jm (fun x:AD=>encS p x.out v) (·.tw) (L.tail.take k)=some L[b]
theorem adn {L:List AD} {k:Nat} (hk:k+1<L.length):L.tail.take (k+1)=L.tail.take k++[L[k+1]]:=by
 cases L with
 | nil=>cases hk
 | cons a L=>simp only [List.tail_cons,List.getElem_cons_succ];exact F7 (by simpa using hk)
theorem atE (p:Pl) (v:Pt) (L:List AD):Zd p v L 0 0:=.inl ⟨rfl,by rw [O8];rfl⟩
theorem ak3 {p:Pl} {v:Pt} {L:List AD} {k b:Nat} (h:Zd p v L k b) (hk:k+1<L.length) (hE:encS p L[k+1].out v=true) (hlt:b=0\/∃ hb:b<L.length,L[k+1].tw<L[b].tw):Zd p v L (k+1) (k+1):=by
 refine .inr ⟨hk,AB,Dc _,?_⟩;rw [adn hk,ZA];unfold RF;rcases h with ⟨rfl,e⟩ | ⟨hb,h1,h2,e⟩
 · rw [e];simp [hE]
 ·rw [e];rcases hlt with g | ⟨_,g⟩
  · omega
  · simp [hE,g]
theorem ado {p:Pl} {v:Pt} {L:List AD} {k b:Nat} (h:Zd p v L k b) (hk:k+1<L.length) (hno:encS p L[k+1].out v=false\/(b≠0/\∃ hb:b<L.length,¬ L[k+1].tw<L[b].tw)):Zd p v L (k+1) b:=by
 rcases h with ⟨rfl,e⟩ | ⟨hb,h1,h2,e⟩
 ·refine .inl ⟨rfl,?_⟩;rw [adn hk,ZA,e];rcases hno with g | ⟨g,-⟩
  · unfold RF;simp [g]
  · exact absurd rfl g
 ·refine .inr ⟨hb,h1,AB,?_⟩;rw [adn hk,ZA,e];unfold RF;rcases hno with g | ⟨-,_,g⟩
  · simp [g]
  · simp [g]
theorem ak4 (w:World) (gm:Nat) (p:Pl) (f:Int->SV) (hpm:Qe w gm p f) (hv:Valid p) (vl:Value) (L:List AD) (hL:aBo w vl L) (hd:∀ x∈L,∀ d∈x.out,d∈Bh p) (hl:L.length<=1000) (v:Pt) (nv:C9 v=true) :
  Calls Tryz.prog 70 #[.map (some gm),vl,BA v] w fun e w'=>(∃ b:Nat,e=.returned (.int .i64 b)/\Zd p v L (L.length-1) b)/\AU w w':=by
 have HEn:=AA (fun k (hk:k<L.length) W (hW:AU w W)=>atD W gm p f (hpm.keep hW) hv _ L[k].out ((hL.2 _ (BO hk)).mono hW) (hd _ (BO hk)) v nv);obtain ⟨⟨Al,cl,rfl,hc1,hc2,hR⟩,-⟩:=hL;unfold maxLen at hc2;have HR:=AA hR;unfold BA at HEn ⊢;clear hR hpm hv hd nv;go_enter Tryz.func70,Tryz.ntmps70;go_upto_block 0 with fail;obtain ⟨W1,hW⟩:=BR (w.alloc (.cells #[.int .i64 v.x,.int .i64 v.y] 39));have HB1:=AA (show AU w W1 by rw [hW];exact bA (bR w) _);have Dt:=AA (show AO W1 w.heap.size 39 #[.int .i64 v.x,.int .i64 v.y] by rw [hW];exact AO.made rfl _ _);rw [<- hW];clear hW;go_wp2_with fail;go_loopw [7,8] (fun s i wr=>∃ k b:Nat,(k+1<=L.length\/k=0)/\i=.int .i64 ((k:Int)+1)/\s=.int .i64 b/\Zd p v L k b/\AU W1 wr) (fun _ i _=>L.length-(intOf i).toNat)
 case atStart => exact ⟨0,0,.inr rfl,rfl,rfl,atE p v L,bR W1⟩
 case round =>
  obtain ⟨k,b,hk,rfl,rfl,hbx,hb⟩:=hrel;have LG:=AA hbx;have Hb:=AA (bT HB1.out hb);have Ep:=AA hb;have X5:=Dt.out.keep hb;clear hb;by_cases hlt:k+1<L.length
  ·obtain ⟨bq,oq,rfl,hlb,c0,c1,-,-⟩:=(HR.out.mono Hb.out).ad hlt;have HE:=AA (HEn.out (k+1) hlt);obtain ⟨E,hE⟩:=BN (encS p L[k+1].out v);rw [hE] at HE;have qW:=AA hE;clear hE;have k1:IntKind.i64.wrap ((k:Int)+1)=(k:Int)+1:=D6 _ AB;have k2:(k:Int)+1<L.length:=by omega
   have k3:0<=(k:Int)+1:=by omega
   have WH:=AA (show ∀ t,L[k+1].tw=t->∀ b':Nat,b=b'->True from fun _ _ _ _=>trivial);clear WH;rcases LG.out with ⟨hb0,-⟩ | ⟨hbl,hb1,hb2,-⟩
   ·subst hb0;have hyes:=AA (fun h=>ak3 LG.out hlt (qW.out.trans h) (.inl rfl));have hnot:=AA (fun h=>ado LG.out hlt (.inl (qW.out.trans h)));generalize L[k+1].tw=t at *;generalize L[k+1].ov=sv at *;obtain ⟨sa,sn,sc⟩:=sv;unfold BK at c1 HE;obtain ⟨CJ,CO,CS,-,-⟩:=X5.BQ;go_upto_region 5 with fail;refine DJ (wr) (.run 23 0 0 (.call 23 16777215 (.take 24 33554431 (.done)))) fun CU QR Ae Ah hS=>?_
    iterate 3 refine Aj ?_
    iterate 11 refine Jh ?_
    iterate 2 refine Aj ?_
    iterate 7 refine Du ?_
    refine GL (HE.out _ (bT Hb.out hS)) ?_;clear hS;intro CX CV hS;refine Aj ?_;refine DF ?_;clear hS Ah Ae;intro hB;have Cm:=AA (bT Ep.out hB);clear hB c0 c1 X5 CJ CO CS
    cases E
    ·go_wp2;go_roundw
     case rel => exact ⟨k+1,0,.inl AB,BJ,rfl,hnot.out rfl,Cm.out⟩
     case measure => exact BL
    ·go_wp2;go_roundw
     case rel => exact ⟨k+1,k+1,.inl AB,BJ,BJ,hyes.out rfl,Cm.out⟩
     case measure => exact BL
   ·obtain ⟨bq',kL,hA',-,e0,-,-,-⟩:=(HR.out.mono Hb.out).ad hbl;injection hA' with hA';injection hA' with y1 y2 _;subst y1 y2;have k4:IntKind.i64.wrap (b:Int)=b:=D6 _ AB;have k5:(b:Int)<L.length:=by omega
    have k6:0<=(b:Int):=by omega
    have kb:((b:Int) == 0)=false:=by simp;omega
    have hyes:=AA (fun h g=>ak3 LG.out hlt (qW.out.trans h) (.inr ⟨hbl,g⟩));have hnot:=AA (fun h=>ado LG.out hlt (.inl (qW.out.trans h)));have qX:=AA (fun g=>ado LG.out hlt (.inr ⟨AB,hbl,g⟩));generalize L[b].tw=tb at *;generalize L[k+1].tw=t at *;generalize L[k+1].ov=sv at *;obtain ⟨sa,sn,sc⟩:=sv;unfold BK at c1 HE
    try clear CJ CO CS
    obtain ⟨CJ,CO,CS,-,-⟩:=X5.BQ;by_cases hlt2:t<tb
    ·go_upto_region 5 with fail;refine DJ (wr) (.run 23 0 0 (.call 23 16777215 (.take 24 33554431 (.done)))) fun CU QR Ae Ah hS=>?_
     iterate 3 refine Aj ?_
     iterate 11 refine Du ?_
     iterate 2 refine Aj ?_
     iterate 7 refine Du ?_
     refine GL (HE.out _ (bT Hb.out hS)) ?_;clear hS;intro CX CV hS;refine Aj ?_;refine DF ?_;clear hS Ah Ae;intro hB;have Cm:=AA (bT Ep.out hB);clear hB c0 c1 e0 X5 CJ CO CS
     cases E
     ·go_wp2;go_roundw
      case rel => exact ⟨k+1,b,.inl AB,BJ,rfl,hnot.out rfl,Cm.out⟩
      case measure => exact BL
     ·go_wp2;go_roundw
      case rel => exact ⟨k+1,k+1,.inl AB,BJ,BJ,hyes.out rfl hlt2,Cm.out⟩
      case measure => exact BL
    ·go_upto_region 5 with fail;refine DJ (wr) (.run 25 0 0 (.done)) fun CU QR Ae Ah hS=>?_
     iterate 3 refine Aj ?_
     iterate 11 refine Du ?_
     iterate 2 refine Aj ?_
     iterate 8 refine Jh ?_
     refine Aj ?_;refine DF ?_;clear hS Ah Ae;intro hB;have Cm:=AA (bT Ep.out hB);clear hB c0 c1 e0 X5 CJ CO CS;go_wp2;go_roundw
     case rel => exact ⟨k+1,b,.inl AB,BJ,rfl,qX.out hlt2,Cm.out⟩
     case measure => exact BL
  ·have hkl:L.length-1=k:=by omega
   have HF:=AA hkl;clear hkl X5;go_wp2;go_ret;exact ⟨⟨b,rfl,by rw [HF.out];exact LG.out⟩,Hb.out⟩
def MB (x:AD):List (List Int×SV):=(x.out,x.ov)::x.inn
theorem adp (x:AD) (w:World) (hr:Sl w (BK x.iv) x.inn.length (x.inn.flatMap Ia)) (hl:x.inn.length<=100000) :
  Calls Tryz.prog 64 #[.agg #[.int .i64 x.tw,BK x.ov,BK x.iv,BK x.av]] w fun e w'=>(∃ A c,e=.returned (.slice A (MB x).length c)/\Own w' w.heap.size 24 1 Ia (.slice A (MB x).length c) (MB x))/\AU w w':=by
 obtain ⟨tw,out,⟨oa,on,oc⟩,inn,⟨ia,II,ic⟩,DC,⟨aa,an,ac⟩⟩:=x;unfold BK MB at *;simp only at hr hl ⊢;have HS:=AA hr;obtain ⟨Ai,ci,he,-⟩:=hr;injection he with e1 e2 e3;subst e2;have HO:=AA (Own.lit (w.alloc (.cells #[.int .i64 tw,.slice oa on oc,.slice ia inn.length ic,.slice aa an ac] 82)) w.heap.size 24 1 Ia [((out,⟨oa,on,oc⟩):List Int×SV)] #[.slice oa on oc] 1 (w.heap.size+1) Ak rfl Ak (DN AB) rfl rfl);have hle:((out,⟨oa,on,oc⟩)::inn:List (List Int×SV)).length=inn.length+1:=rfl;rw [hle];clear e1 e3 hle;go_enter Tryz.func64,Tryz.ntmps64;go_wp2_with
  (at_builtin
   refine FK _ rfl (.tmp 5) (.tmp 7) _ rfl (base:=w.heap.size) ZX XZ ZW rfl HO.out rfl (l2:=inn) (HS.out.mono (bA (bA (bR w) _) _)) DZ DZ (by simp only [World.size_alloc];omega) ?_;intro v2 w2 ho2 hg2 atF;obtain ⟨A2,c2,hv2,-⟩:=Own.Ig ho2;rw [show ([((out,⟨oa,on,oc⟩):List Int×SV)]++inn).length=inn.length+1 by rw [ER,sD];omega] at hv2;subst hv2;have F9:=AA ho2;have HB2:=AA (bG (bA (bA (bR w) _) _) hg2 (fun g hg=>(HO.out.lt g hg).1));clear ho2 hg2 atF
   )
 go_ret;exact ⟨⟨A2,c2,rfl,F9.out⟩,HB2.out⟩
def atG (w:World) (l:List Nd) (e:Ending) (w':World):Prop :=
 ∃ A c,e=.returned (.slice A l.length c)/\AU w w'/\Own w' w.heap.size 45 3 QY (.slice A l.length c) l
theorem atH (v:Value) (l:List Nd) (w:World) (h:Zz w v l) (hl:l.length<=1048576) :
  Calls Tryz.prog 113 #[v] w (atG w l):=by
 have H:=h;obtain ⟨A,c,rfl,hn,hc,hR⟩:=h;have hE:=Lib.run_eql_slice_nil (P:=Tryz.prog) (t:=22) (e:=45);rcases A with _ | ad
 ·have hl0:l=[]:=by
   rcases l with _ | ⟨a,l⟩
   · rfl
   ·obtain ⟨b,o,e,_⟩:=hR (by simp [QY])
    cases e
  subst hl0;clear hR H;simp only [LX] at hn ⊢;have hE1:∀ W:World,(binOp .eql 22 (.slice none 0 c) (.slice none 0 0)).run Tryz.prog W=.ok (.bool true) W:=fun W=>Lib.run_eql_slice_nil W _ 45 none _ c 0 0 Tryz.underlying22;clear hE;go_enter Tryz.func113,Tryz.ntmps113;go_wp2;go_ret;exact ⟨_,_,rfl,bR w,Own.nil _ _ _ _ _⟩
 ·have hE1:∀ W:World,(binOp .eql 22 (.slice (some ad) l.length c) (.slice none 0 0)).run Tryz.prog W=.ok (.bool false) W:=fun W=>Lib.run_eql_slice_nil W _ 45 (some ad) _ c 0 0 Tryz.underlying22;clear hE hR;have HH:=AA H;clear H;go_enter Tryz.func113,Tryz.ntmps113;go_wp2_with
   (at_builtin
    refine FK _ rfl (.tmp 5) (.tmp 6) _ rfl (base:=w.heap.size) acH aAY acI rfl (Own.lit _ _ _ _ QY [] _ 0 _ rfl rfl (Dc _) (DN AB) rfl rfl) rfl (HH.out.mono (bA (bR w) _)) VT VT Ak ?_;intro v1 w1 hown hg hat)
  go_ret;obtain ⟨A1,c1,rfl,-⟩:=Own.sl hown;simp only [Qj] at hown ⊢;exact ⟨A1,c1,rfl,bG (bA (bR w) _) hg (fun k hk=>by have:w.heap.size=k:=Dq hk;omega),hown⟩
def Nr (a:Ar):Ar:=⟨a.id,a.fr,a.dst,a.via,0,0⟩
def Bq (p:Pl):Pl:=⟨p.nodes,p.AP.map Nr,[]⟩
structure GH (w:World) (B:Nat) (vn va vf:Value) (p:Pl) (bl:List (Ar×SV)):Prop where
 Ov:Own w B 45 3 QY vn p.nodes
 FU:Own w B 50 6 Ju va bl
 Kw:∀ x∈bl,Own w B 39 2 Ee (BK x.2) x.1.via
 eq:bl.map (·.1)=p.AP
 KC:Own w B 3 1 DR vf p.faces
theorem GH.keep {w w':World} {B:Nat} {vn va vf:Value} {p:Pl} {bl:List (Ar×SV)} (h:GH w B vn va vf p bl) (hb:AU w w'):GH w' B vn va vf p bl :=
 ⟨h.Ov.keep hb,h.FU.keep hb,fun x hx=>(h.Kw x hx).keep hb,h.eq,h.KC.keep hb⟩
theorem GH.dV {w:World} {B:Nat} {vn va vf:Value} {p:Pl} {bl:List (Ar×SV)} (h:GH w B vn va vf p bl):Ci w (.agg #[vn,va,vf]) p:=by
 refine ⟨vn,va,vf,bl.map nJ,rfl,?_,h.Ov.sl,⟨?_,fun k hk=>?_⟩,h.KC.sl⟩
 · rw [IV,<- h.eq];rfl
 ·have:=h.FU.sl
  rw [Cj,acF];exact this
 ·have hk':k<bl.length:=by simpa using hk
  rw [Gp];exact (h.Kw _ (BO hk')).sl
def atI (w:World) (p:Pl) (e:Ending) (w':World):Prop :=
 ∃ An cn Aa ca bl,e=.returned (.agg #[.slice An p.nodes.length cn,.slice Aa p.AP.length ca,.slice none 0 0])/\AU w w'/\GH w' w.heap.size (.slice An p.nodes.length cn) (.slice Aa p.AP.length ca) (.slice none 0 0) p bl
theorem GH.more {w w1:World} {B:Nat} {vn va va' vf:Value} {p:Pl} {bl:List (Ar×SV)} {x:Ar×SV} (h:GH w B vn va vf p bl) (ho:Own w1 B 50 6 Ju va' (bl++[x])) (hg:w.grownBy w1 va.ownBlock) (hx:Own w B 39 2 Ee (BK x.2) x.1.via) :
  GH w1 B vn va' vf ⟨p.nodes,p.AP++[x.1],p.faces⟩ (bl++[x]) :=
 ⟨Own.grown h.Ov hg (Own.apart h.Ov h.FU Aw),ho,fun y hy=>by
  rcases FX.1 hy with hy | hy
  · exact Own.grown (h.Kw y hy) hg (Own.apart (h.Kw y hy) h.FU Aw)
  ·rw [EP] at hy;subst hy;exact Own.grown hx hg (Own.apart hx h.FU Aw),by rw [GI,h.eq];rfl,Own.grown h.KC hg (Own.apart h.KC h.FU Aw)⟩
theorem GH.far {w:World} {B:Nat} {vn va vf:Value} {p:Pl} {bl:List (Ar×SV)} (h:GH w B vn va vf p bl) {g:Nat} {t:TypeId} {cs:Array Value} (hb:AO w g t cs) (h1:45≠t) (h2:50≠t) (h3:39≠t) (h4:3≠t) (j:Nat) (u:Value):GH (w.setCell ⟨g,j,none⟩ u) B vn va vf p bl :=
 ⟨Own.far h.Ov (Own.Dz h.Ov hb h1) u,Own.far h.FU (Own.Dz h.FU hb h2) u,fun x hx=>Own.far (h.Kw x hx) (Own.Dz (h.Kw x hx) hb h3) u,h.eq,Own.far h.KC (Own.Dz h.KC hb h4) u⟩
theorem Row.aBp {w:World} {A:Option Addr} {l:List (Ar×SV)} (h:Row w A (l.flatMap Ju)) {k:Nat} (hk:k<l.length) :
  ∃ b o,A=some ⟨b,o,none⟩/\b<w.heap.size/\w.cell? ⟨b,o+k*6,none⟩=some (.int .i64 l[k].1.id)/\w.cell? ⟨b,o+k*6+1,none⟩=some (.int .i64 l[k].1.fr)/\w.cell? ⟨b,o+k*6+2,none⟩=some (.int .i64 l[k].1.dst) /\
   w.cell? ⟨b,o+k*6+3,none⟩=some (.slice l[k].2.a l[k].2.n l[k].2.c)/\w.cell? ⟨b,o+k*6+4,none⟩=some (.int .i64 l[k].1.left)/\w.cell? ⟨b,o+k*6+5,none⟩=some (.int .i64 l[k].1.right):=by
 obtain ⟨b,o,hA,hb,hc⟩:=h.at_ (n:=6) (fun _=>rfl) hk AB;exact ⟨b,o,hA,hb,hc 0 _ rfl,hc 1 _ rfl,hc 2 _ rfl,hc 3 _ rfl,hc 4 _ rfl,hc 5 _ rfl⟩
theorem ak5 (v:Value) (p:Pl) (w:World) (h:Ci w v p) (hn:p.nodes.length<=100000) (ha:p.AP.length<=100000) (hvl:∀ a∈p.AP,a.via.length<=100000):Calls Tryz.prog 56 #[v] w (atI w (Bq p)):=by
 obtain ⟨_,_,_,al,rfl,hpa,hN,⟨⟨Aa,ca,rfl,ha1,ha2,FD⟩,hV⟩,⟨Af,cf,rfl,-⟩⟩:=h;obtain ⟨bl,rfl⟩:=hV.sv;have hres:p.AP=bl.map (·.1):=by rw [hpa,IV];rfl
 have hbl:bl.length<=100000:=by rw [hres,Cj] at ha;exact ha
 rw [Cj] at ha1;rw [acF] at FD;have aBq:=AA (show ∀ k (hk:k<bl.length),Dv w (.slice bl[k].2.a bl[k].2.n bl[k].2.c) bl[k].1.via from fun k hk=>by
  have:=hV k (by simpa using hk)
  simpa [nJ] using this)
 have aBr:=AA (show ∀ k (hk:k<bl.length),bl[k].1.via.length<=100000 from fun k hk=>hvl _ (by rw [hres];exact Gh (BO hk)));have GN:=AA (show Row w Aa (bl.flatMap Ju) from FD);have HCn:=AA (fun W (hW:AU w W)=>atH _ p.nodes W (hN.mono hW) AB);have kQ:=AA (fun u l W (hu:Dv W u l) (hl:l.length<=1048576)=>ag7 u l W hu hl);obtain ⟨An,cn,rfl,hn1,hn2,-⟩:=hN;have xW:=AA hres;rw [Cj] at *;unfold maxLen at ha2 hn2;clear hV FD hpa hres hvl;generalize p.faces.length=nf at *;go_enter Tryz.func56,Tryz.ntmps56;go_upto_region 1 with fail;obtain ⟨g2,hg2⟩:=BN (w.heap.size+1);obtain ⟨W1,hW⟩:∃ W:World,W=(w.alloc (.cells #[.slice An p.nodes.length cn,.slice Aa bl.length ca,.slice Af nf cf] 26)).alloc (.cells #[.slice none 0 0,.slice none 0 0,.slice none 0 0] 26):=⟨_,rfl⟩;have X1:AO W1 w.heap.size 26 #[.slice An p.nodes.length cn,.slice Aa bl.length ca,.slice Af nf cf]:=by rw [hW];exact (AO.made rfl _ _).alloc _
 have X2:AO W1 g2 26 #[.slice none 0 0,.slice none 0 0,.slice none 0 0]:=by rw [hW];exact AO.made (by rw [<- hg2];simp) _ _
 have HB1:=AA (show AU w W1 by rw [hW];exact bA (bA (bR w) _) _);rw [<- hW]
 try rw [hg2]
 have Dt:=AA X1;have CG:=AA X2;have n12:¬ g2=w.heap.size:=by omega
 have hgw:w.heap.size<=g2:=by omega
 clear hW hg2;obtain ⟨BF,BG,BH,BI,-,-,-⟩:=X1.Az;obtain ⟨BU,BX,Bg,CB,Qp,V5,WI⟩:=X2.Az;go_wp2_with fail;refine (HCn.out _ HB1.out).mono ?_;rintro e w2 ⟨Gs,Gt,rfl,hb2,hon⟩;have HB2:=AA (bT HB1.out hb2);have Ej:=AA (Dt.out.keep hb2);have D8:=AA (CG.out.keep hb2);have ak6:=hon.ES (b':=w.heap.size) HB1.out.size;have Vx:=AA (show GH w2 w.heap.size (.slice Gs p.nodes.length Gt) (.slice none 0 0) (.slice none 0 0) ⟨p.nodes,[],[]⟩ [] from ⟨ak6,Own.nil _ _ _ _ _,(fun x hx=>by cases hx),rfl,Own.nil _ _ _ _ _⟩);clear hb2 hon ak6 HCn X1 BF BG BH BI X2 BU BX Bg CB Qp V5 WI;have X3:=Ej.out;have X4:=D8.out;obtain ⟨Dk,EJ,ET,I9,-,-,-⟩:=X3.Az;obtain ⟨BZ,Bl,CQ,EU,EG,FW,JC⟩:=X4.Az;go_wp2_with fail;go_loopw [12] (fun i wr=>∃ (k:Nat) (ol:List (Ar×SV)) (A:Option Addr) (c:Nat),k<=bl.length/\i=.int .i64 k/\ol.length=k/\GH wr w.heap.size (.slice Gs p.nodes.length Gt) (.slice A k c) (.slice none 0 0) ⟨p.nodes,(bl.take k).map (fun x=>Nr x.1),[]⟩ ol/\AO wr g2 26 #[.slice Gs p.nodes.length Gt,.slice A k c,.slice none 0 0]/\AU w wr) (fun i _=>bl.length-(intOf i).toNat)
 case atStart => exact ⟨0,[],none,0,Bv _,rfl,rfl,Vx.out.far D8.out Aw Aw Aw Aw 0 _,by simpa using D8.out.EI 0 (.slice Gs p.nodes.length Gt),bS HB2.out hgw _⟩
 case round =>
  clear Vx D8 HB2 X3 Dk EJ ET I9 X4 BZ Bl CQ EU EG FW JC;obtain ⟨k,ol,A,c,hk,rfl,hol,hpo,X4,hb⟩:=hrel;obtain ⟨wo,rfl⟩:=BR wr;have HP:=AA hpo;have D8:=AA X4;have HB:=AA hb;have WA:=AA hol;have hl4:=X4.lt;clear hpo hb;by_cases hlt:k<bl.length
  ·obtain ⟨b,o,TR,hlb,c0,c1,c2,c3,c4,c5⟩:=(Row.mono GN.out HB.out).aBp hlt;subst TR;have hv:=aBq.out k hlt;have hvl:=aBr.out k hlt;have htk:bl.take (k+1)=bl.take k++[bl[k]]:=F7 hlt;generalize bl[k]=x at *;obtain ⟨⟨id,fr,dst,via,lf,rt⟩,⟨va,vn,vc⟩⟩:=x;simp only at c0 c1 c2 c3 c4 c5 hv hvl htk;have hv0:=hv;obtain ⟨Av,cv,hev,-,-,-⟩:=hv;injection hev with y1 y2 y3;subst y1 y2 y3;have qY:=AA (fun W (hW:AU w W)=>kQ.out (.slice va via.length vc) via W (hv0.mono hW) AB);clear hv0;have FI:=AA htk;clear htk;go_upto_region 5 with fail;obtain ⟨W2,hW⟩:∃ W:World,W=wo.alloc (.cells #[.int .i64 id,.int .i64 fr,.int .i64 dst,.slice va via.length vc,.int .i64 lf,.int .i64 rt] 50):=⟨_,rfl⟩;have hA:AU wo W2:=by rw [hW];exact bA (bR wo) _
   obtain ⟨g4,hg4⟩:=BN wo.heap.size;have X6:AO W2 g4 50 #[.int .i64 id,.int .i64 fr,.int .i64 dst,.slice va via.length vc,.int .i64 lf,.int .i64 rt]:=by rw [hW];exact AO.made hg4.symm _ _
   have HB2:=AA (bT HB.out hA);have HP2:=AA (HP.out.keep hA);have DI:=AA (D8.out.keep hA);have n4:some g4≠(Value.slice A k c).ownBlock:=fun e=>by have:=(HP.out.FU.lt _ e.symm).2;omega
   have n42:¬ g4=g2:=by omega
   have hz2:=HB2.out.size;have az4:=hA.size;rw [<- hW]
   try rw [hg4]
   clear hW hA c0 c1 c2 c3 c4 c5 hlb HP HB D8;have X5:=DI.out;clear X4;have DW:=AA (fun (y:Ar×SV)=>show (ol++[y]).length=k+1 from by rw [ER,WA.out];rfl);have atJ:ol.length<=100000:=by omega
   have adq:w.heap.size<=g2:=hgw;have HXt:=AA (fun (A7:Option Addr) (c7:Nat)=>show (bl.take (k+1)).map (fun x=>Nr x.1)=(bl.take k).map (fun x=>Nr x.1)++[(⟨id,fr,dst,via,0,0⟩:Ar)] from by rw [FI.out,GI];rfl);obtain ⟨EK,EL,EM,ML,QM,dN,dO,-,-,-,-,-,-⟩:=X6.IW;have hl5:=X5.lt;have n5:=Own.Dz HP2.out.FU DI.out Aw;refine aAh (OG (w.heap.size) (g4) W2) (.take 0 1 (.run 8 2 1 (.two 1 1023 (.call 10 2047 (.take 11 4095 (.call 12 8191 (.call 13 16383 (.take 14 32767 (.call 15 65535 (.done))))))) 10 2045 (.take 11 4093 (.two 1 4095 (.call 12 8191 (.call 13 16383 (.take 14 32767 (.call 15 65535 (.done))))) 12 8189 (.call 1 8191 (.call 13 16383 (.take 14 32767 (.call 15 65535 (.done)))))))))) I8 (kR _) I8 I8 (aak I8) ?_;intro CU QR Ae Ah hS;replace X5:=X5.drew
   iterate 9
    apply mZ;exact Ae;exact rfl;exact hS;exact rfl
    · intro _ hqc xX;go_simp;try rfl
    try simp only [pu]
   refine PD (i:=1) (j:=10) (Ew Ae rfl) (Ew Ae rfl) (fun K hK=>?_) (fun K hK=>?_)
   ·have AQ:=AA hS;clear hS;refine FY (FV rfl) ?_;obtain ⟨z1,z2,z3,z4,-⟩:=AO.Az X5;go_simp;refine hK.out _ _ AQ.out (fun hS=>?_);clear hK K AQ
    try simp only [pu]
    refine UW (i:=10) (Ew Ae rfl) (fun K hK=>?_);have AQ:=AA hS;clear hS;refine FY (FV rfl) ?_;go_simp;refine (qY.out _ (bT HB2.out (bD (bR W2)))).mono ?_;rintro e CX ⟨A9,c9,rfl,CV,Jt⟩;have hS:OG (w.heap.size) (g4) W2 CX:=kC AQ.out CV AB AB;clear AQ
    try replace XL:=XL.keep CV
    try replace X5:=X5.keep CV
    refine hK.out _ _ hS (fun _=>?_);clear hK K
    try simp only [pu]
    apply mZ;exact Ae;exact rfl;exact hS;exact rfl
    · intro _ hqc xX;go_simp;try rfl
    try simp only [pu]
    refine UW (i:=12) (Ew Ae rfl) (fun K hK=>?_);have AQ:=AA hS;clear hS;refine FY (FV rfl) ?_;go_simp;have XLy:Below (w.heap.size) W2 (CX):=AQ.out.1;have xY:w.heap.size<=(CX).heap.size:=EH AB (show Below (w.heap.size) W2 (CX) from AQ.out.1).size;refine hK.out _ _ (kA AQ.out AB AB _) (fun hS=>?_);clear hK K AQ
    try replace X5:=X5.alloc (.cells #[.int .i64 id,.int .i64 fr,.int .i64 dst,.slice A9 via.length c9,.int .i64 0,.int .i64 0] 50)
    try replace XL:=XL.alloc (.cells #[.int .i64 id,.int .i64 fr,.int .i64 dst,.slice A9 via.length c9,.int .i64 0,.int .i64 0] 50)
    have XL:=AO.new (CX) 50 #[.int .i64 id,.int .i64 fr,.int .i64 dst,.slice A9 via.length c9,.int .i64 0,.int .i64 0]
    try simp only [World.size_drew,World.size_alloc] at XL xY
    try simp only [World.alloc_drew] at X5
    try simp only [World.alloc_drew] at XL
    try simp only [pu]
    refine UW (i:=13) (Ew Ae rfl) (fun K hK=>?_);have AQ:=AA hS;clear hS;refine FY (FV rfl) ?_;refine JV (.tmp 17) (.tmp 28) _ rfl (base:=w.heap.size) aAX bg aBH rfl (((HP2.out.FU.keep (bD (bR W2))).keep CV).alloc _) rfl (l2:=[((⟨id,fr,dst,via,0,0⟩:Ar),(⟨A9,via.length,c9⟩:SV))]) (Sl.lit (n:=1) (AO.made rfl _ _) rfl (DN AB)) DZ DZ (by have:=CV.size;simp at this;simp;omega) ?_;intro v7 w7 Ox G9 Tj;obtain ⟨A7,c7,hv7,-⟩:=Own.Ig Ox;rw [DW.out] at hv7;subst hv7;have SK:=AO.grown X5 G9 (fun e=>n5 e.symm);obtain ⟨q1,q2,q3,q4,q5,q6,q7⟩:=AO.Az SK;have hmr:=GH.more (((HP2.out.keep (bD (bR W2))).keep CV).keep (bA (bR _) _)) Ox G9 (Own.alloc (Jt.ES DT) _);have Tm:=AA (hmr.far SK Aw Aw Aw Aw 1 (.slice A7 (k+1) c7));have Xb:=AA (SK.EI 1 (.slice A7 (k+1) c7));have LU:=AA (bS (p:=⟨g2,1,none⟩) (bG (bA (bT (bT HB2.out (bD (bR W2))) CV) _) G9 (fun q hq=>(HP2.out.FU.lt q hq).1)) adq (.slice A7 (k+1) c7));have hS:OG w.heap.size g4 W2 w7:=kG AQ.out G9 (fun q hq=>(HP2.out.FU.lt q hq).1) n4 AB AB;clear hmr SK Ox G9 Tj;clear AQ;refine hK.out _ _ hS (fun _=>?_);clear hK K
    try simp only [pu]
    apply mZ;exact Ae;exact rfl;exact hS;exact rfl
    · intro _ hqc xX;go_simp;try rfl
    try simp only [pu]
    refine UW (i:=15) (Ew Ae rfl) (fun K hK=>?_);have AQ:=AA hS;clear hS;refine FY (FV rfl) ?_;go_simp;refine hK.out _ _ (kS AQ.out OB OB _) (fun hS=>?_);clear hK K AQ
    try simp only [pu]
    refine mX ?_;refine Ah.down _ _ ?_;have hBk:=hS.2;have hB:Below (w.heap.size) W2 _:=hS.1;clear hS Ah Ae;go_wp2;go_roundw
    case rel => exact ⟨k+1,_,A7,c7,AB,BJ,DW.out _,by rw [HXt.out A7 c7];exact Tm.out,by simpa using Xb.out,LU.out⟩
    case measure => exact BL
   ·have AQ:=AA hS;clear hS;refine FY (FV rfl) ?_;go_simp;refine (qY.out _ (bT HB2.out (bD (bR W2)))).mono ?_;rintro e CX ⟨A9,c9,rfl,CV,Jt⟩;have hS:OG (w.heap.size) (g4) W2 CX:=kC AQ.out CV AB AB;clear AQ
    try replace XL:=XL.keep CV
    try replace X5:=X5.keep CV
    refine hK.out _ _ hS (fun _=>?_);clear hK K
    try simp only [pu]
    apply mZ;exact Ae;exact rfl;exact hS;exact rfl
    · intro _ hqc xX;go_simp;try rfl
    try simp only [pu]
    refine PD (i:=1) (j:=12) (Ew Ae rfl) (Ew Ae rfl) (fun K hK=>?_) (fun K hK=>?_)
    ·have AQ:=AA hS;clear hS;refine FY (FV rfl) ?_;obtain ⟨z1,z2,z3,z4,-⟩:=AO.Az X5;go_simp;refine hK.out _ _ AQ.out (fun hS=>?_);clear hK K AQ
     try simp only [pu]
     refine UW (i:=12) (Ew Ae rfl) (fun K hK=>?_);have AQ:=AA hS;clear hS;refine FY (FV rfl) ?_;go_simp;have XLy:Below (w.heap.size) W2 (CX):=AQ.out.1;have xY:w.heap.size<=(CX).heap.size:=EH AB (show Below (w.heap.size) W2 (CX) from AQ.out.1).size;refine hK.out _ _ (kA AQ.out AB AB _) (fun hS=>?_);clear hK K AQ
     try replace X5:=X5.alloc (.cells #[.int .i64 id,.int .i64 fr,.int .i64 dst,.slice A9 via.length c9,.int .i64 0,.int .i64 0] 50)
     try replace XL:=XL.alloc (.cells #[.int .i64 id,.int .i64 fr,.int .i64 dst,.slice A9 via.length c9,.int .i64 0,.int .i64 0] 50)
     have XL:=AO.new (CX) 50 #[.int .i64 id,.int .i64 fr,.int .i64 dst,.slice A9 via.length c9,.int .i64 0,.int .i64 0]
     try simp only [World.size_drew,World.size_alloc] at XL xY
     try simp only [World.alloc_drew] at X5
     try simp only [World.alloc_drew] at XL
     try simp only [pu]
     refine UW (i:=13) (Ew Ae rfl) (fun K hK=>?_);have AQ:=AA hS;clear hS;refine FY (FV rfl) ?_;refine JV (.tmp 17) (.tmp 28) _ rfl (base:=w.heap.size) aAX bg aBH rfl (((HP2.out.FU.keep (bD (bR W2))).keep CV).alloc _) rfl (l2:=[((⟨id,fr,dst,via,0,0⟩:Ar),(⟨A9,via.length,c9⟩:SV))]) (Sl.lit (n:=1) (AO.made rfl _ _) rfl (DN AB)) DZ DZ (by have:=CV.size;simp at this;simp;omega) ?_;intro v7 w7 Ox G9 Tj;obtain ⟨A7,c7,hv7,-⟩:=Own.Ig Ox;rw [DW.out] at hv7;subst hv7;have SK:=AO.grown X5 G9 (fun e=>n5 e.symm);obtain ⟨q1,q2,q3,q4,q5,q6,q7⟩:=AO.Az SK;have hmr:=GH.more (((HP2.out.keep (bD (bR W2))).keep CV).keep (bA (bR _) _)) Ox G9 (Own.alloc (Jt.ES DT) _);have Tm:=AA (hmr.far SK Aw Aw Aw Aw 1 (.slice A7 (k+1) c7));have Xb:=AA (SK.EI 1 (.slice A7 (k+1) c7));have LU:=AA (bS (p:=⟨g2,1,none⟩) (bG (bA (bT (bT HB2.out (bD (bR W2))) CV) _) G9 (fun q hq=>(HP2.out.FU.lt q hq).1)) adq (.slice A7 (k+1) c7));have hS:OG w.heap.size g4 W2 w7:=kG AQ.out G9 (fun q hq=>(HP2.out.FU.lt q hq).1) n4 AB AB;clear hmr SK Ox G9 Tj;clear AQ;refine hK.out _ _ hS (fun _=>?_);clear hK K
     try simp only [pu]
     apply mZ;exact Ae;exact rfl;exact hS;exact rfl
     · intro _ hqc xX;go_simp;try rfl
     try simp only [pu]
     refine UW (i:=15) (Ew Ae rfl) (fun K hK=>?_);have AQ:=AA hS;clear hS;refine FY (FV rfl) ?_;go_simp;refine hK.out _ _ (kS AQ.out OB OB _) (fun hS=>?_);clear hK K AQ
     try simp only [pu]
     refine mX ?_;refine Ah.down _ _ ?_;have hBk:=hS.2;have hB:Below (w.heap.size) W2 _:=hS.1;clear hS Ah Ae;go_wp2;go_roundw
     case rel => exact ⟨k+1,_,A7,c7,AB,BJ,DW.out _,by rw [HXt.out A7 c7];exact Tm.out,by simpa using Xb.out,LU.out⟩
     case measure => exact BL
    ·have AQ:=AA hS;clear hS;refine FY (FV rfl) ?_;go_simp;have XLy:Below (w.heap.size) W2 (CX):=AQ.out.1;have xY:w.heap.size<=(CX).heap.size:=EH AB (show Below (w.heap.size) W2 (CX) from AQ.out.1).size;refine hK.out _ _ (kA AQ.out AB AB _) (fun hS=>?_);clear hK K AQ
     try replace X5:=X5.alloc (.cells #[.int .i64 id,.int .i64 fr,.int .i64 dst,.slice A9 via.length c9,.int .i64 0,.int .i64 0] 50)
     try replace XL:=XL.alloc (.cells #[.int .i64 id,.int .i64 fr,.int .i64 dst,.slice A9 via.length c9,.int .i64 0,.int .i64 0] 50)
     have XL:=AO.new (CX) 50 #[.int .i64 id,.int .i64 fr,.int .i64 dst,.slice A9 via.length c9,.int .i64 0,.int .i64 0]
     try simp only [World.size_drew,World.size_alloc] at XL xY
     try simp only [World.alloc_drew] at X5
     try simp only [World.alloc_drew] at XL
     try simp only [pu]
     refine UW (i:=1) (Ew Ae rfl) (fun K hK=>?_);have AQ:=AA hS;clear hS;refine FY (FV rfl) ?_;obtain ⟨z1,z2,z3,z4,-⟩:=AO.Az X5;go_simp;refine hK.out _ _ AQ.out (fun hS=>?_);clear hK K AQ
     try simp only [pu]
     refine UW (i:=13) (Ew Ae rfl) (fun K hK=>?_);have AQ:=AA hS;clear hS;refine FY (FV rfl) ?_;refine JV (.tmp 17) (.tmp 28) _ rfl (base:=w.heap.size) aAX bg aBH rfl (((HP2.out.FU.keep (bD (bR W2))).keep CV).alloc _) rfl (l2:=[((⟨id,fr,dst,via,0,0⟩:Ar),(⟨A9,via.length,c9⟩:SV))]) (Sl.lit (n:=1) (AO.made rfl _ _) rfl (DN AB)) DZ DZ (by have:=CV.size;simp at this;simp;omega) ?_;intro v7 w7 Ox G9 Tj;obtain ⟨A7,c7,hv7,-⟩:=Own.Ig Ox;rw [DW.out] at hv7;subst hv7;have SK:=AO.grown X5 G9 (fun e=>n5 e.symm);obtain ⟨q1,q2,q3,q4,q5,q6,q7⟩:=AO.Az SK;have hmr:=GH.more (((HP2.out.keep (bD (bR W2))).keep CV).keep (bA (bR _) _)) Ox G9 (Own.alloc (Jt.ES DT) _);have Tm:=AA (hmr.far SK Aw Aw Aw Aw 1 (.slice A7 (k+1) c7));have Xb:=AA (SK.EI 1 (.slice A7 (k+1) c7));have LU:=AA (bS (p:=⟨g2,1,none⟩) (bG (bA (bT (bT HB2.out (bD (bR W2))) CV) _) G9 (fun q hq=>(HP2.out.FU.lt q hq).1)) adq (.slice A7 (k+1) c7));have hS:OG w.heap.size g4 W2 w7:=kG AQ.out G9 (fun q hq=>(HP2.out.FU.lt q hq).1) n4 AB AB;clear hmr SK Ox G9 Tj;clear AQ;refine hK.out _ _ hS (fun _=>?_);clear hK K
     try simp only [pu]
     apply mZ;exact Ae;exact rfl;exact hS;exact rfl
     · intro _ hqc xX;go_simp;try rfl
     try simp only [pu]
     refine UW (i:=15) (Ew Ae rfl) (fun K hK=>?_);have AQ:=AA hS;clear hS;refine FY (FV rfl) ?_;go_simp;refine hK.out _ _ (kS AQ.out OB OB _) (fun hS=>?_);clear hK K AQ
     try simp only [pu]
     refine mX ?_;refine Ah.down _ _ ?_;have hBk:=hS.2;have hB:Below (w.heap.size) W2 _:=hS.1;clear hS Ah Ae;go_wp2;go_roundw
     case rel => exact ⟨k+1,_,A7,c7,AB,BJ,DW.out _,by rw [HXt.out A7 c7];exact Tm.out,by simpa using Xb.out,LU.out⟩
     case measure => exact BL
  ·obtain rfl:k=bl.length:=by omega
   have hlen:p.AP.length=bl.length:=by rw [xW.out,Cj]
   have hpe:(⟨p.nodes,(bl.take bl.length).map (fun x=>Nr x.1),[]⟩:Pl)=Bq p:=by
    unfold Bq;rw [I4,xW.out,IV];rfl
   have hpo:=HP.out;rw [hpe] at hpo;have Tm:=AA (((hpo.far D8.out Aw Aw Aw Aw 0 (.slice Gs p.nodes.length Gt)).far (D8.out.EI 0 _) Aw Aw Aw Aw 1 (.slice A bl.length c)).far ((D8.out.EI 0 _).EI 1 _) Aw Aw Aw Aw 2 (.slice none 0 0));have LU:=AA (bS (p:=⟨g2,2,none⟩) (bS (p:=⟨g2,1,none⟩) (bS (p:=⟨g2,0,none⟩) HB.out hgw (.slice Gs p.nodes.length Gt)) hgw (.slice A bl.length c)) hgw (.slice none 0 0));have HLn:=AA hlen;clear hpo hpe hlen HP
   try clear BZ Bl CQ EU
   try clear EG FW JC
   obtain ⟨BZ,Bl,CQ,EU,EG,FW,JC⟩:=X4.Az;go_wp2_with fail;refine iL (g:=g2) (cs:=#[.slice Gs p.nodes.length Gt,.slice A bl.length c,.slice none 0 0]) rfl aC rfl rfl (AO.VY D8.out) ?_;have hl1:(Bq p).AP.length=bl.length:=by unfold Bq;rw [Cj];exact HLn.out
   refine ⟨Gs,Gt,A,c,ol,by rw [hl1];rfl,LU.out,?_⟩;rw [hl1];exact Tm.out
set_option linter.unusedSectionVars false
def Gl (a b:Int):Bool:=decide (Ez a<Ez b) || (decide (Ez a=Ez b) && decide (b<a))
theorem dW {a b:Int}:Gl a b=true↔Ez a<Ez b\/(Ez a=Ez b/\b<a):=by unfold Gl;simp
theorem atK (a:Int):Gl a a=false:=by rw [<- JK,dW];omega
theorem ak7 {a b:Int} (h1:Gl a b=false) (h2:Gl b a=false):a=b:=by
 rw [<- JK,dW] at h1 h2;unfold Ez at *;split at h1<;>split at h1<;>simp_all<;>omega
theorem adr {a b c:Int} (h1:Gl a b=true) (h2:Gl b c=true):Gl a c=true:=by
 rw [dW] at *;omega
theorem ak8 {a b:Int} (h1:Gl a b=true):Gl b a=false:=by
 rw [<- JK];intro h2;rw [dW] at h1 h2;omega
def RQ (k d:Int):Int:=if Gl d k then d else k
def OU (c:List Int) (n:Nat):Int:=(c.take n).foldl RQ (c.headD 0)
def Dp (c:List Int):Int:=c.foldl RQ (c.headD 0)
theorem ak9 {c:List Int} {n:Nat} (hn:n<c.length):OU c (n+1)=RQ (OU c n) c[n]:=by
 unfold OU;rw [F7 hn,Oi];rfl
theorem akA (c:List Int):OU c c.length=Dp c:=by unfold OU Dp;rw [I4]
theorem aBs:∀ (l:List Int) (k:Int),l.foldl RQ k=k\/l.foldl RQ k∈l
 | [],k=>.inl rfl
 | d::l,k=>by
  rw [UD];rcases aBs l (RQ k d) with h | h
  ·rw [h];unfold RQ;split
   · exact .inr Eu
   · exact .inl rfl
  · exact .inr (I7 _ h)
theorem wL {c:List Int} (h:c≠[]):Dp c∈c:=by
 rcases aBs c (c.headD 0) with e | e
 ·unfold Dp;rw [e]
  cases c with
  | nil=>exact absurd rfl h
  | cons a c=>exact Eu
 · exact e
def dY (X:List Int) (l:List (List Int)):List (List Int):=l.takeWhile (fun Y=>!Gl (Dp X) (Dp Y))++X::l.dropWhile (fun Y=>!Gl (Dp X) (Dp Y))
def sortK (l:List (List Int)):List (List Int):=l.foldl (fun acc X=>dY X acc) []
def RS (X Y:List Int):Bool:=Gl (Dp X) (Dp Y)
theorem atL (X:List Int) (l:List (List Int)):(dY X l).Perm (X::l):=by
 unfold dY;refine List.perm_middle.trans ?_;rw [aap]
theorem atM {X:List Int} {l:List (List Int)} (h:l.Pairwise (fun a b=>RS b a=false)):(dY X l).Pairwise (fun a b=>RS b a=false):=by
 unfold dY;have hall:(l.takeWhile (fun Y=>!Gl (Dp X) (Dp Y))++l.dropWhile (fun Y=>!Gl (Dp X) (Dp Y)))=l:=aap;have h1:∀ Y∈l.takeWhile (fun Y=>!Gl (Dp X) (Dp Y)),Gl (Dp X) (Dp Y)=false:=fun Y hY=>by
  have:=KU.1 (List.all_takeWhile (p:=fun Y=>!Gl (Dp X) (Dp Y)) (l:=l)) Y hY
  simpa using this
 have h2:∀ Y∈l.dropWhile (fun Y=>!Gl (Dp X) (Dp Y)),Gl (Dp Y) (Dp X)=false:=by
  intro Y hY
  cases hd:l.dropWhile (fun Y=>!Gl (Dp X) (Dp Y)) with
  | nil=>rw [hd] at hY;cases hY
  | cons Z m =>
   have hZ:Gl (Dp X) (Dp Z)=true:=by
    have:=List.head_dropWhile_not (fun Y=>!Gl (Dp X) (Dp Y)) (l:=l) (by rw [hd];simp)
    simp only [hd,List.head_cons] at this;simpa using this
   rw [hd] at hY;rcases EW.1 hY with rfl | hY
   · exact ak8 hZ
   ·have hp:(Z::m).Pairwise (fun a b=>RS b a=false):=by
     have:=h
     rw [<- hall,Qn] at this;rw [<- hd];exact this.2.1
    have:=(JL.1 hp).1 Y hY
    rw [<- JK];intro hc;have h3:=adr hc hZ;unfold RS at this;rw [h3] at this
    cases this
 have hp:=h;rw [<- hall,Qn] at hp;rw [Qn,JL];refine ⟨hp.1,⟨h2,hp.2.1⟩,fun a ha b hb=>?_⟩;rcases EW.1 hb with rfl | hb
 · exact h1 a ha
 · exact hp.2.2 a ha b hb
theorem Ze (l:List (List Int)):(sortK l).Perm l/\(sortK l).Pairwise (fun a b=>RS b a=false):=by
 have:∀ (l acc:List (List Int)),acc.Pairwise (fun a b=>RS b a=false)->(l.foldl (fun acc X=>dY X acc) acc).Perm (acc++l)/\(l.foldl (fun acc X=>dY X acc) acc).Pairwise (fun a b=>RS b a=false):=by
  intro l
  induction l with
  | nil=>intro acc h;exact ⟨by rw [JA];exact List.Perm.refl _,h⟩
  | cons X l ih =>
   intro acc h;rw [UD];obtain ⟨h1,h2⟩:=ih (dY X acc) (atM h);refine ⟨h1.trans ?_,h2⟩;exact ((atL X acc).append_right l).trans (List.perm_middle (l₁:=acc) (l₂:=l) (a:=X)).symm
 have h:=this l [] List.Pairwise.nil;rw [Qj] at h;exact h
section
variable {p:Pl} (h:Valid p)
include h
theorem Valid.atN {X Y:List Int} (hX:X∈Ce p) (hY:Y∈Ce p) (h1:RS X Y=false) (h2:RS Y X=false):X=Y:=by
 obtain ⟨x,-,-,-,hx⟩:=h.Ph hX;obtain ⟨y,-,-,-,hy⟩:=h.Ph hY;have e:Dp X=Dp Y:=ak7 h1 h2;refine h.aB8 hX hY (wL (fun e=>by rw [e] at hx;cases hx)) ?_;rw [e];exact wL (fun e=>by rw [e] at hy;cases hy)
theorem Valid.akB {l:List (List Int)} (hl:l.Perm (BP p)) (hs:l.Pairwise (fun a b=>RS b a=false)):l=sortK (BP p):=by
 obtain ⟨h1,h2⟩:=Ze (BP p);refine ou (lt:=RS) (hl.trans h1.symm) hs h2 fun a ha b hb g1 g2=>?_;have ma:=(Ku.1 (hl.subset ha)).1;have mb:=(Ku.1 (hl.subset hb)).1;exact h.atN ma mb g1 g2
end
