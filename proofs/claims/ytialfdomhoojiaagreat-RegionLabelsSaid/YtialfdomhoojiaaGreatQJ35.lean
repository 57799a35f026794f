import Derived.Test.YtialfdomhoojiaaGreatQJ34
import Derived.StillTailTactics
set_option linter.unusedSimpArgs false
set_option linter.unusedVariables false
set_option maxRecDepth 100000
set_option maxHeartbeats 8000000
namespace Go.Proofs.YtialfdomhoojiaaGreat
open Go.RowKit
theorem ayA (v u:Value) (L L':List AD) (w:World) (hl:SN w v L) (hl':SN w u L') (he:L.map Px=L'.map Px):Calls Tryz.prog 20 #[v,u] w fun e w'=>e=.returned (.bool true)/\AU w w':=by
 have HS:=AA (fun (va ub:Value) (l:List Int) W (h:Ints W va l) (h':Ints W ub l)=>show Calls Tryz.prog 55 #[va,ub] W fun e w'=>e=.returned (.bool true)/\AU W w' from by
  have t:=atc va ub l l W h h';rw [JO rfl] at t;exact t)
 have hll:L.length=L'.length:=by simpa using congrArg List.length he
 have HAt:=AA (fun k (h1:k<L.length) (h2:k<L'.length)=>show Px L[k]=Px L'[k] from by
  have e1:(L.map Px)[k]'(by simpa using h1)=Px L[k]:=by rw [Gp]
  have e2:(L'.map Px)[k]'(by simpa using h2)=Px L'[k]:=by rw [Gp]
  rw [<- e1,<- e2];congr 1)
 have HL:=AA hl;have aAA:=AA hl';obtain ⟨A,c,rfl,h1,h2,-⟩:=hl.sl;obtain ⟨A',c',rfl,h1',h2',-⟩:=hl'.sl;unfold maxLen at h2;obtain ⟨n,hn⟩:=BN L.length;have hn':L'.length=n:=hll.symm.trans hn;have HN:=AA hn;have HN':=AA hn';have hnb:n<=9223372036854775807:=by omega
 rw [hn,hn'];clear hl hl' he hll hn hn' h1 h2 h1' h2';go_enter Tryz.func20,Tryz.ntmps20;go_wp2_with fail;go_loopw [5] (fun i wr=>∃ k:Nat,k<=n/\i=.int .i64 k/\AU w wr) (fun i _=>n-(intOf i).toNat)
 case atStart => exact ⟨0,Bv _,rfl,bR w⟩
 case round =>
  obtain ⟨k,hk,rfl,hb⟩:=hrel;obtain ⟨wo,rfl⟩:=BR wr;have Hb:=AA hb;clear hb;by_cases hlt:k<n
  ·have k1:k<L.length:=by rw [HN.out];exact hlt
   have k2:k<L'.length:=by rw [HN'.out];exact hlt
   obtain ⟨A1,c1,e1,-,-,hR⟩:=(HL.out.mono Hb.out).sl;obtain ⟨A2,c2,e2,-,-,hR'⟩:=(aAA.out.mono Hb.out).sl;injection e1 with q1 q2 q3;subst q1 q3;clear q2;injection e2 with q1 q2 q3;subst q1 q3;clear q2;obtain ⟨b,o,hA,hlb,c0,c1,c2,c3⟩:=hR.ad k1;obtain ⟨b',o',hA',QJ,d0,d1,d2,d3⟩:=hR'.ad k2;subst hA hA';have hg:=HAt.out k k1 k2;have m1:=BO k1;have m2:=BO k2;have Ho:=AA (fun W (hW:AU wo W)=>((HL.out.mono (bT Hb.out hW)).out _ m1));have Ho':=AA (fun W (hW:AU wo W)=>((aAA.out.mono (bT Hb.out hW)).out _ m2));have Hi:=AA (fun W (hW:AU wo W)=>((HL.out.mono (bT Hb.out hW)).inn _ m1));have Hi':=AA (fun W (hW:AU wo W)=>((aAA.out.mono (bT Hb.out hW)).inn _ m2));have Hc:=AA (fun W (hW:AU wo W)=>((HL.out.mono (bT Hb.out hW)).Ja _ m1));have Hc':=AA (fun W (hW:AU wo W)=>((aAA.out.mono (bT Hb.out hW)).Ja _ m2));have Ha:=AA (fun W (hW:AU wo W)=>((HL.out.mono (bT Hb.out hW)).DC _ m1));have Ha':=AA (fun W (hW:AU wo W)=>((aAA.out.mono (bT Hb.out hW)).DC _ m2));generalize L[k]=x at *;generalize L'[k]=x' at *;obtain ⟨tw,out,⟨oa,on,oc⟩,inn,⟨ia,II,ic⟩,DC,⟨aa,an,ac⟩⟩:=x;obtain ⟨tw',out',⟨oa',on',oc'⟩,rO,⟨ia',ads,ic'⟩,azN,⟨aa',an',ac'⟩⟩:=x';unfold Px at hg;injection hg with g1 g2 g3 g4;simp only at g1 g2 g3 g4;subst g1 g2 g4;unfold BK at c1 c2 c3 d1 d2 d3 Ho Ho' Hi Hi' Ha Ha';simp only at c0 c1 c2 c3 d0 d1 d2 d3 Ho Ho' Hi Hi' Ha Ha' Hc Hc';obtain ⟨_,_,e1,hi1,hi2,-⟩:=Hi.out wo (bR wo);have hib:inn.length<=9223372036854775807:=by unfold maxLen at hi2;omega
   clear hi1 hi2;obtain ⟨_,_,e2,-,-,-⟩:=Hi'.out wo (bR wo);injection e1 with q1 q2 q3;subst q1 q3;injection e2 with q1 q2' q3;subst q1 q3;have hil:rO.length=inn.length:=by simpa using (congrArg List.length g3).symm
   rw [hil] at q2';subst q2 q2';have HIl:=AA hil;have HG:=AA g3;have PY:=AA (fun W (hW:AU wo W)=>HS.out _ _ out W (Ho.out W hW) (Ho'.out W hW));have ZU:=AA (fun W (hW:AU wo W)=>HS.out _ _ DC W (Ha.out W hW) (Ha'.out W hW));have VA:=AA c2;have HD0:=AA d2;have i1:0<=(k:Int):=by omega
   have i2:(k:Int)<n:=by omega
   have hnl:((inn.length:Int) != inn.length)=false:=by simp
   have htt:(tw != tw)=false:=by simp
   clear k1 k2 hR hR' m1 m2 g3 hil;go_upto_region 6 with fail;refine DJ (wo) (.run 22 0 0 (.call 22 8388607 (.run 13 23 8388607 (.call 36 137438953471 (.run 17 37 137438953471 (.done)))))) fun CU QR Ae Ah hS=>?_
   iterate 12 refine Aj ?_
   iterate 10 refine Du ?_
   refine GL (PY.out _ (bT (bD (bR wo)) (bR _))) ?_;clear hS;intro CX CV hS;refine Du ?_
   iterate 2 refine Aj ?_
   iterate 10 refine Du ?_
   refine GL (ZU.out _ (bT (bD (bR wo)) CV)) ?_;clear hS;intro wr2 Fp hS;refine Du ?_
   iterate 2 refine Aj ?_
   iterate 13 refine Du ?_
   refine Aj ?_;refine DF ?_;clear hS Ah Ae;intro hB;skip;have HB2:=AA hB;clear hB c0 c1 c2 c3 d0 d1 d2 d3 PY ZU Ho Ho' Ha Ha' hnl htt CV Fp;replace c2:=Eh HB2.out VA.out;replace d2:=Eh HB2.out HD0.out;have hlw:b<wr2.heap.size:=LW hlb HB2.out.size;have ayB:b'<wr2.heap.size:=LW QJ HB2.out.size;go_upto_block 2 with fail;go_wp2_with fail;go_loopw [6] (fun j wr=>∃ J:Nat,J<=inn.length/\j=.int .i64 J/\AU wo wr) (fun j _=>inn.length-(intOf j).toNat)
   case atStart => exact ⟨0,Bv _,rfl,HB2.out⟩
   case round =>
    obtain ⟨J,hJ,rfl,hbv⟩:=hrel;obtain ⟨wv,rfl⟩:=BR wr;have Hv:=AA hbv;replace c2:=Eh hbv VA.out;replace d2:=Eh hbv HD0.out;replace hlw:=LW hlb hbv.size;replace ayB:=LW QJ hbv.size;clear hbv HB2;by_cases hj:J<inn.length
    ·have hj':J<rO.length:=by rw [HIl.out];exact hj
     obtain ⟨A3,c3,e1,h13,-,hRi⟩:=Hi.out wv Hv.out;obtain ⟨A4,c4,e2,h14,-,amr⟩:=Hi'.out wv Hv.out;rw [HIl.out] at e2;injection e1 with q1 _ q3;injection e2 with q1' _ q3';subst q1 q3 q1' q3';obtain ⟨b3,o3,hA,hl3,e3⟩:=hRi.cy hj;obtain ⟨b4,o4,hA',hl4,e4⟩:=amr.cy hj';subst hA hA';have hxe:inn[J].1=rO[J].1:=by
      have x1:(inn.map (·.1))[J]'(by simpa using hj)=inn[J].1:=by rw [Gp]
      have x2:(rO.map (·.1))[J]'(by simpa using hj')=rO[J].1:=by rw [Gp]
      rw [<- x1,<- x2];have hg:=HG.out;congr 1
     have ak:=AA (fun W (hW:AU wv W)=>HS.out _ _ inn[J].1 W (Hc.out W (bT Hv.out hW) _ (BO hj)) (by rw [hxe];exact Hc'.out W (bT Hv.out hW) _ (BO hj')));clear hxe hRi amr;generalize inn[J]=z at *;generalize rO[J]=z' at *;clear hj';obtain ⟨zx,⟨za,zn,zc⟩⟩:=z;obtain ⟨zx',⟨za',zn',zc'⟩⟩:=z';unfold BK at ak;simp only at e3 e4 ak;have i3:0<=(J:Int):=by omega
     have i4:(J:Int)<inn.length:=by omega
     go_upto_region 11 with fail;refine DJ (wv) (.run 16 0 0 (.call 16 131071 (.take 17 262143 (.done)))) fun CU QR Ae Ah hS=>?_
     iterate 16 refine Aj ?_
     refine GL (ak.out _ (bD (bR wv))) ?_;clear hS;intro CX CV hS;refine Aj ?_;refine DF ?_;clear hS Ah Ae;intro hB;go_wp2;go_roundw
     case rel => exact ⟨J+1,AB,BJ,bT Hv.out hB⟩
     case measure => exact BL
    ·obtain rfl:J=inn.length:=by omega
     go_wp2;go_roundw
     case rel => exact ⟨k+1,AB,BJ,bT Hb.out Hv.out⟩
     case measure => exact BL
  ·obtain rfl:k=n:=by omega
   go_wp2;go_ret;exact ⟨rfl,Hb.out⟩
def P9:Pl:=⟨[⟨1,⟨0,0⟩⟩,⟨2,⟨5,5⟩⟩],[⟨1,1,1,lI,1,0⟩],[1]⟩
def l7:Pl:=⟨[⟨1,⟨0,0⟩⟩,⟨2,⟨5,5⟩⟩],[⟨1,1,1,lI,0,0⟩],[1]⟩
theorem ams:Ib ZN=0:=by decide +kernel
theorem ayC:fA ZN (sortK (BP ZN))=[⟨0,[],[[-1]],[]⟩,⟨1,[1],[],[]⟩]:=by kernel_rfl
theorem ayD:Sm ZN ⟨5,5⟩=(0,1,0):=by decide +kernel
theorem ayE:Sm ZN ⟨10,5⟩=(2,1,0):=by decide +kernel
theorem axS:lD ZN 1=some ⟨5,5⟩:=by kernel_rfl
theorem axT:Ib P9=0:=by decide +kernel
theorem axU:lD P9 1=some ⟨2,5⟩:=by kernel_rfl
theorem axV:Ib l7=12:=by decide +kernel
theorem axW:IG (Bq l7)=0:=by decide +kernel
theorem axX:(BP (Bq l7)).length=1:=by decide +kernel
theorem axY:H6 l7=P9:=by kernel_rfl
theorem axZ (w:World):Calls Tryz.prog 48 #[] w (avl w):=by
 go_enter Tryz.func48,Tryz.ntmps48;go_wp2_with fail;refine iL (t:=26) (g:=w.heap.size) (cs:=#[.slice (some ⟨w.heap.size+1,0,none⟩) 1 1,.slice (some ⟨w.heap.size+1+1+1,0,none⟩) 1 1,.slice (some ⟨w.heap.size+1+1+1+1,0,none⟩) 1 1]) rfl aC rfl rfl ?_ ⟨w.heap.size+1,w.heap.size+1+1,w.heap.size+1+1+1,w.heap.size+1+1+1+1,rfl,?_,AB,?_,?_,?_,?_⟩
 · exact ((((AO.made rfl _ _).alloc _).alloc _).alloc _).alloc _
 · exact bA (bA (bA (bA (bA (bR w) _) _) _) _) _
 · exact (((AO.made Ak _ _).alloc _).alloc _).alloc _
 · exact ((AO.made Ak _ _).alloc _).alloc _
 · exact (AO.made Ak _ _).alloc _
 · exact AO.made Ak _ _
def afc (w:World):World:=(((w.alloc (.cells #[.int .i64 (-1)] 3)).alloc (.cells #[.slice (some ⟨w.heap.size,0,none⟩) 1 1] 24)).alloc (.cells #[.int .i64 1] 3)).alloc (.cells #[.int .i64 0,.slice none 0 0,.slice (some ⟨w.heap.size+1,0,none⟩) 1 1,.slice none 0 0,.int .i64 1,.slice (some ⟨w.heap.size+1+1,0,none⟩) 1 1,.slice none 0 0,.slice none 0 0] 62)
def rP (w:World):List AD:=[⟨0,[],sv0,[([-1],⟨some ⟨w.heap.size,0,none⟩,1,1⟩)],⟨some ⟨w.heap.size+1,0,none⟩,1,1⟩,[],sv0⟩,⟨1,[1],⟨some ⟨w.heap.size+1+1,0,none⟩,1,1⟩,[],sv0,[],sv0⟩]
theorem amu (w:World):AU w (afc w):=bA (bA (bA (bA (bR w) _) _) _) _
theorem axa (w:World):SN (afc w) (.slice (some ⟨w.heap.size+1+1+1,0,none⟩) 2 2) (rP w):=by
 refine ⟨Sl.lit (n:=2) (AO.made Ak _ _) rfl (DN AB),fun x hx=>?_,fun x hx=>?_,fun x hx c hc=>?_,fun x hx=>?_⟩
 ·simp only [rP,EW,YK,or_false] at hx;rcases hx with rfl | rfl
  · exact Sl.nil _
  · exact Sl.lit (n:=1) ((AO.made Ak _ _).alloc _) rfl (DN AB)
 ·simp only [rP,EW,YK,or_false] at hx;rcases hx with rfl | rfl
  · exact Sl.lit (n:=1) (((AO.made Ak _ _).alloc _).alloc _) rfl (DN AB)
  · exact Sl.nil _
 ·simp only [rP,EW,YK,or_false] at hx;rcases hx with rfl | rfl
  ·simp only [EW,YK,or_false] at hc;subst hc;exact Sl.lit (n:=1) ((((AO.made rfl _ _).alloc _).alloc _).alloc _) rfl (DN AB)
  · cases hc
 ·simp only [rP,EW,YK,or_false] at hx;rcases hx with rfl | rfl
  · exact Sl.nil _
  · exact Sl.nil _
theorem axb (w:World):Calls Tryz.prog 16 #[] w fun e w'=>e=.returned (.bool true)/\AU w w':=by
 have HE:=AA axZ;go_enter Tryz.func16,Tryz.ntmps16;go_wp2_with fail;refine (HE.out _).mono ?_;rintro e w1 ⟨n1,v1,a1,f1,rfl,hb1,hx1,hn1,hv1,ha1,hf1⟩;unfold exV;have HB1:=AA hb1;have bZ:=AA (Ci.ex (avn hn1) ha1 (aev hv1) hf1);clear hb1 hn1 hv1 ha1 hf1 hx1;go_upto_region 2 with fail;obtain ⟨W2,hW⟩:∃ W:World,W=w1.alloc (.cells #[.slice (some ⟨n1,0,none⟩) 1 1,.slice (some ⟨a1,0,none⟩) 1 1,.slice (some ⟨f1,0,none⟩) 1 1] 26):=⟨_,rfl⟩;have X1:AO W2 w1.heap.size 26 #[.slice (some ⟨n1,0,none⟩) 1 1,.slice (some ⟨a1,0,none⟩) 1 1,.slice (some ⟨f1,0,none⟩) 1 1]:=by rw [hW];exact AO.made rfl _ _
 have hA:AU w1 W2:=by rw [hW];exact bA (bR w1) _
 have HP2:=AA (bZ.out.mono hA);have HB2:=AA (bT HB1.out hA);obtain ⟨g1,h1⟩:∃ g,w1.heap.size=g:=⟨_,rfl⟩;rw [<- hW];rw [h1] at X1 ⊢;clear hW hA h1 bZ HB1;have Dt:=AA X1;have HRg:=AA (fun W (hW:AU W2 W)=>av7 _ ZN W (HP2.out.mono hW) ams);have zQ:=AA (fun u W (hW:AU W2 W)=>aw8 _ ZN u W (HP2.out.mono hW));have OX:=AA (fun W (hW:AU W2 W)=>amk _ ZN 1 W (HP2.out.mono hW) ams);rw [axS] at OX;have RD:=AA (zQ.out ⟨5,5⟩);have HL2:=AA (zQ.out ⟨10,5⟩);rw [ayD] at RD;rw [ayE] at HL2;replace RD:=AA (show ∀ W,AU W2 W->Calls Tryz.prog 24 #[.agg #[.slice (some ⟨n1,0,none⟩) 1 1,.slice (some ⟨a1,0,none⟩) 1 1,.slice (some ⟨f1,0,none⟩) 1 1],.agg #[.int .i64 5,.int .i64 5]] W fun e w'=>e=.returned (.tuple #[.int .i64 0,.int .i64 1,.int .i64 0])/\AU W w' from RD.out);replace HL2:=AA (show ∀ W,AU W2 W->Calls Tryz.prog 24 #[.agg #[.slice (some ⟨n1,0,none⟩) 1 1,.slice (some ⟨a1,0,none⟩) 1 1,.slice (some ⟨f1,0,none⟩) 1 1],.agg #[.int .i64 10,.int .i64 5]] W fun e w'=>e=.returned (.tuple #[.int .i64 2,.int .i64 1,.int .i64 0])/\AU W w' from HL2.out);replace OX:=AA (show ∀ W,AU W2 W->Calls Tryz.prog 30 #[.agg #[.slice (some ⟨n1,0,none⟩) 1 1,.slice (some ⟨a1,0,none⟩) 1 1,.slice (some ⟨f1,0,none⟩) 1 1],.int .i64 1] W fun e w'=>e=.returned (.tuple #[.agg #[.int .i64 5,.int .i64 5],.bool true])/\AU W w' from OX.out);clear zQ;obtain ⟨BF,BG,BH,BI,-,-,-⟩:=X1.Az;go_wp2_with fail;refine (HRg.out _ (bR W2)).mono ?_;rintro e w3 ⟨A,c,L,rfl,hb3,Si,hmap⟩;rw [ayC] at hmap;have hll:L.length=2:=by simpa using congrArg List.length hmap
 rw [hll];rw [hll] at Si;have HAf:=AA Si;have afC:=AA hmap;have HB3:=AA hb3;clear hb3 Si hmap hll HRg X1 BF BG BH BI;have X1:=Dt.out.keep HB3.out
 try clear BF BG BH BI
 obtain ⟨BF,BG,BH,BI,-,-,-⟩:=X1.Az;go_wp2_with fail;refine (RD.out _ HB3.out).mono ?_;rintro e w4 ⟨rfl,hb4⟩;have HB4:=AA (bT HB3.out hb4);have amv:=AA (HAf.out.mono hb4);clear hb4 HB3 HAf RD X1 BF BG BH BI;have X1:=Dt.out.keep HB4.out
 try clear BF BG BH BI
 obtain ⟨BF,BG,BH,BI,-,-,-⟩:=X1.Az;go_wp2_with fail;refine (HL2.out _ HB4.out).mono ?_;rintro e w5 ⟨rfl,hb5⟩;have Cm:=AA (bT HB4.out hb5);have amw:=AA (amv.out.mono hb5);clear hb5 HB4 amv HL2 X1 BF BG BH BI;have X1:=Dt.out.keep Cm.out
 try clear BF BG BH BI
 obtain ⟨BF,BG,BH,BI,-,-,-⟩:=X1.Az;go_wp2_with fail;refine (OX.out _ Cm.out).mono ?_;rintro e w6 ⟨rfl,hb6⟩;have GU:=AA (bT HB2.out (bT Cm.out hb6));have amx:=AA (amw.out.mono hb6);clear hb6 Cm amw OX X1 BF BG BH BI Dt HP2 HB2;go_upto_region 6 with fail;obtain ⟨W7,hW⟩:∃ W:World,W=w6.alloc (.cells #[.int .i64 5,.int .i64 5] 39):=⟨_,rfl⟩;have EY:AO W7 w6.heap.size 39 #[.int .i64 5,.int .i64 5]:=by rw [hW];exact AO.made rfl _ _
 have hA:AU w6 W7:=by rw [hW];exact bA (bR w6) _
 have axc:=AA (amx.out.mono hA);have MW:=AA (bT GU.out hA);obtain ⟨g10,h10⟩:∃ g,w6.heap.size=g:=⟨_,rfl⟩;rw [<- hW];rw [h10] at EY ⊢;have Nc:=AA EY;clear hW hA h10 amx GU EY;go_wp2_with fail;refine (HE.out _).mono ?_;rintro e w8 ⟨n2,v2,a2,f2,rfl,hb8,hx8,hn2,hv2,ha2,hf2⟩;unfold exV;go_upto_region 7 with fail;obtain ⟨W9,hW⟩:∃ W:World,W=w8.alloc (.cells #[.slice (some ⟨n2,0,none⟩) 1 1,.slice (some ⟨a2,0,none⟩) 1 1,.slice (some ⟨f2,0,none⟩) 1 1] 26):=⟨_,rfl⟩;have hA:AU w8 W9:=by rw [hW];exact bA (bR w8) _
 have T2:AO W9 w8.heap.size 26 #[.slice (some ⟨n2,0,none⟩) 1 1,.slice (some ⟨a2,0,none⟩) 1 1,.slice (some ⟨f2,0,none⟩) 1 1]:=by rw [hW];exact AO.made rfl _ _
 have OE:=AA (hn2.keep hA);have HV2:=AA (hv2.keep hA);have HA2:=AA (ha2.keep hA);have HF2:=AA (hf2.keep hA);have Pq:=AA (bT hb8 hA);have hs8:=hb8.size;obtain ⟨g12,h12⟩:∃ g,w8.heap.size=g:=⟨_,rfl⟩;have hx9:W7.heap.size<=n2/\W7.heap.size<=v2/\W7.heap.size<=a2/\W7.heap.size<=f2/\W7.heap.size<=g12:=by omega
 rw [<- hW];rw [h12] at T2 ⊢;have HT2:=AA T2;clear hW hA h12 hb8 hn2 hv2 ha2 hf2 hx8 hs8;obtain ⟨T2l,T2a,T2b,T2c,axd,axe,axf⟩:=T2.Az;go_upto_region 8 with
  (at_builtin
   refine FK _ rfl (.tmp 44) (.tmp 47) _ rfl (base:=n2) acH aAY acI rfl (Own.amJ (l:=[(⟨1,⟨0,0⟩⟩:Nd)]) (OE.out.alloc _) (Dc _) rfl rfl rfl (DN AB)) rfl (l2:=[(⟨2,⟨5,5⟩⟩:Nd)]) (Sl.lit (n:=1) (AO.made rfl _ _) rfl (DN AB)) DZ DZ (by have:=OE.out.lt;simp;omega) ?_;intro v5 w5 Di hg5 Gi;replace Di:Own w5 n2 45 3 QY v5 P9.nodes:=Di;have hs5:Sl w5 v5 2 (P9.nodes.flatMap QY):=Own.sl Di;obtain ⟨A5,c5,rfl,-,-,-⟩:=hs5;have Fh:=AA Di;have Oa:=AA (show (W9.alloc (.cells #[.int .i64 2,.int .i64 5,.int .i64 5] 45)).grownBy w5 (some n2) from hg5);have T2n:=(HT2.out.alloc (.cells #[.int .i64 2,.int .i64 5,.int .i64 5] 45)).grown Oa.out (fun e=>AO.Me HT2.out OE.out Aw (Dq e));have afd:=AA T2n;clear T2 T2l T2a T2b T2c axd axe axf Di hg5 Gi;obtain ⟨axg,axh,-,-,axi,-,-⟩:=T2n.Az;clear T2n)
 obtain ⟨Ru,hW⟩:∃ W:World,W=w5.setCell ⟨g12,0,none⟩ (.slice A5 2 c5):=⟨_,rfl⟩;have hK:∀ g t cs,g≠n2->g≠g12->AO W9 g t cs->AO Ru g t cs:=fun g t cs k1 k2 h=>by
  rw [hW];exact AO.far (AO.grown (h.alloc _) Oa.out (fun e=>k1 (Dq e))) k2 _
 have HNq:=AA (show Own Ru n2 45 3 QY (.slice A5 2 c5) P9.nodes by
  rw [hW];exact Fh.out.far (p:=⟨g12,0,none⟩) (Own.Dz Fh.out afd.out Aw) _)
 have HT:=AA (show AO Ru g12 26 #[.slice A5 2 c5,.slice (some ⟨a2,0,none⟩) 1 1,.slice (some ⟨f2,0,none⟩) 1 1] by
  rw [hW];have:=afd.out.EI 0 (.slice A5 2 c5)
  simpa using this)
 have HV:=AA (hK _ _ _ (AO.Me HV2.out OE.out Aw) (AO.Me HV2.out HT2.out Aw) HV2.out);have HA:=AA (hK _ _ _ (AO.Me HA2.out OE.out Aw) (AO.Me HA2.out HT2.out Aw) HA2.out);have HF:=AA (hK _ _ _ (AO.Me HF2.out OE.out Aw) (AO.Me HF2.out HT2.out Aw) HF2.out);have ZP:=AA (show AU W7 Ru by
  rw [hW];exact bS (p:=⟨g12,0,none⟩) (bG (bA Pq.out _) Oa.out (fun k hk=>by have:=Dq hk;omega)) DT _)
 rw [<- hW];clear hW hK Fh Oa afd HV2 HA2 HF2 OE HT2 Pq axg axh axi;have Py:=AA (show Ci Ru (.agg #[.slice A5 2 c5,.slice (some ⟨a2,0,none⟩) 1 1,.slice (some ⟨f2,0,none⟩) 1 1]) P9 from Ci.ex (Own.sl HNq.out) HA.out (aev HV.out) HF.out);have QO:=AA (amk _ P9 1 Ru Py.out axT);rw [axU] at QO;replace QO:=AA (show Calls Tryz.prog 30 #[.agg #[.slice A5 2 c5,.slice (some ⟨a2,0,none⟩) 1 1,.slice (some ⟨f2,0,none⟩) 1 1],.int .i64 1] Ru fun e w'=>e=.returned (.tuple #[.agg #[.int .i64 2,.int .i64 5],.bool true])/\AU Ru w' from QO.out);have LQ:=HT.out;obtain ⟨Nz,O1,O4,O5,-,-,-⟩:=LQ.Az;go_wp2_with fail;refine QO.out.mono ?_;rintro e Xj ⟨rfl,Nh⟩;have abE:=AA Nh;clear Nh QO Py LQ Nz O1 O4 O5;go_upto_region 9 with fail;obtain ⟨VL,hW⟩:∃ W:World,W=Xj.alloc (.cells #[.int .i64 2,.int .i64 5] 39):=⟨_,rfl⟩;have hA:AU Ru VL:=by rw [hW];exact bA abE.out _
 have Tt:AO VL Xj.heap.size 39 #[.int .i64 2,.int .i64 5]:=by rw [hW];exact AO.made rfl _ _
 obtain ⟨g13,h13⟩:∃ g,Xj.heap.size=g:=⟨_,rfl⟩;rw [<- hW];rw [h13] at Tt ⊢;have jh:=AA Tt;have abG:=AA (HT.out.keep hA);have afe:=AA (HNq.out.keep hA);have aff:=AA (HV.out.keep hA);have gU:=AA (HA.out.keep hA);have afg:=AA (HF.out.keep hA);have lJ:=AA (bT ZP.out hA);clear hW hA h13 HT HNq HV HA HF ZP abE;have LQ:=abG.out;have XA:=gU.out;unfold ab7 at XA
 try clear Nz O1 O4 O5
 obtain ⟨Nz,O1,O4,O5,-,-,-⟩:=LQ.Az;obtain ⟨XAl,XAa,XAb,XAc,XAd,XAe,XAf,axj,axk,axl,axn,axo,axp⟩:=XA.IW;go_upto_region 10 with fail;obtain ⟨EX,hW⟩:∃ W:World,W=VL.setCell ⟨a2,4,none⟩ (.int .i64 0):=⟨_,rfl⟩;have afh:=AA (show AO EX g12 26 _ by rw [hW];exact abG.out.far (p:=⟨a2,4,none⟩) (AO.Me abG.out gU.out Aw) _);have amy:=AA (show AO EX g13 39 _ by rw [hW];exact jh.out.far (p:=⟨a2,4,none⟩) (AO.Me jh.out gU.out Aw) _);have aeW:=AA (show AU W7 EX by rw [hW];exact bS (p:=⟨a2,4,none⟩) lJ.out DT _);have zL:=AA (show Ci EX (.agg #[.slice A5 2 c5,.slice (some ⟨a2,0,none⟩) 1 1,.slice (some ⟨f2,0,none⟩) 1 1]) l7 by
  rw [hW];refine Ci.ex (v:=v2) (n:=3) (c:=3) (Own.sl (afe.out.far (p:=⟨a2,4,none⟩) (Own.Dz afe.out gU.out Aw) _)) ?_ (aev (aff.out.far (p:=⟨a2,4,none⟩) (AO.Me aff.out gU.out Aw) _)) (afg.out.far (p:=⟨a2,4,none⟩) (AO.Me afg.out gU.out Aw) _);have:=gU.out.EI 4 (.int .i64 0)
  unfold ab7 at this ⊢;simpa using this)
 rw [<- hW];clear hW abG jh afe aff gU afg lJ Tt LQ Nz O1 O4 O5 XA XAl XAa XAb XAc XAd XAe XAf axj axk axl axn axo axp;have HLb:=AA (show Calls Tryz.prog 21 #[.agg #[.slice A5 2 c5,.slice (some ⟨a2,0,none⟩) 1 1,.slice (some ⟨f2,0,none⟩) 1 1]] EX (al6 EX P9) from (alJ _ l7 EX zL.out ⟨by show 2<=100000;omega,by show 1<=100000;omega,fun a ha=>by
   have e:a=⟨1,1,1,lI,0,0⟩:=EP.1 ha;subst e
   show 3<=100000
   omega⟩ axW).mono (fun e w' h=>by
  rcases h with ⟨h64,-⟩ | ⟨-,h⟩
  · rw [axX] at h64;omega
  · rw [axY] at h;exact h))
 have GV:=AA (fun W (hW:AU EX W)=>al3 _ l7 W (zL.out.mono hW));rw [axV] at GV;have LQ:=afh.out
 try clear Nz O1 O4 O5
 obtain ⟨Nz,O1,O4,O5,-,-,-⟩:=LQ.Az;go_wp2_with fail;refine HLb.out.mono ?_;rintro e uK ⟨An,cn,Aa,ca,Af,cf,bl,rfl,an0,hpo⟩;have har:=hpo.FU;have heq:[(⟨1,1,1,lI,1,0⟩:Ar)]=bl.map (·.1):=hpo.eq.symm;obtain ⟨z,hbl⟩:∃ z,bl=[z]:=by
  cases bl with
  | nil=>simp at heq
  | cons z l =>
   cases l with
   | nil=>exact ⟨z,rfl⟩
   | cons _ _=>simp at heq
 subst hbl;have hz:z.1=⟨1,1,1,lI,1,0⟩:=by simpa using heq.symm
 obtain ⟨ba,oa,VG,hla,-,-,-,-,y4,y5⟩:=Row.aBp (Own.ald har) (k:=0) Ak;simp only [List.getElem_cons_zero,hz,sU,YJ] at y4 y5;subst VG;have amQ:=AA an0;have HY4:=AA y4;have YE:=AA y5;clear an0 hpo har heq hz y4 y5 HLb LQ Nz O1 O4 O5;go_upto_region 11 with fail;obtain ⟨gV,hW⟩:∃ W:World,W=uK.alloc (.cells #[.slice An P9.nodes.length cn,.slice (some ⟨ba,oa,none⟩) P9.AP.length ca,.slice Af P9.faces.length cf] 26):=⟨_,rfl⟩;have Wi:AO gV uK.heap.size 26 #[.slice An P9.nodes.length cn,.slice (some ⟨ba,oa,none⟩) P9.AP.length ca,.slice Af P9.faces.length cf]:=by rw [hW];exact AO.made rfl _ _
 have hA:AU uK gV:=by rw [hW];exact bA (bR uK) _
 replace HY4:=AA (Eh hA HY4.out);replace YE:=AA (Eh hA YE.out);have rQ:=AA (bT amQ.out hA);have abH:=AA (bT aeW.out rQ.out);obtain ⟨g15,h15⟩:∃ g,uK.heap.size=g:=⟨_,rfl⟩;rw [<- hW];rw [h15] at Wi ⊢;have jk:=AA Wi;have azO:=LW hla hA.size;clear hW hA h15 amQ;have EY:=Nc.out.keep abH.out;have Tt:=amy.out.keep rQ.out;have LQ:=afh.out.keep rQ.out;have y4:=HY4.out;have y5:=YE.out;have amR:=axc.out.mono abH.out;have hS:=fun (W:World) (h:SN W (.slice A 2 c) L) (L':List AD) (u:Value) (h':SN W u L') (he:L.map Px=L'.map Px)=>ayA (.slice A 2 c) u L L' W h h' he;have axq:=AA amR;have HS:=AA hS;clear amR hS;have zJ:P9.AP.length=1:=rfl;have kl2:P9.nodes.length=2:=rfl;have kl3:P9.faces.length=1:=rfl;rw [zJ,kl2,kl3] at Wi;rw [zJ,kl2,kl3] at jk
 try rw [zJ,kl2,kl3]
 clear zJ kl2 kl3;obtain ⟨JD,JE,JF,-,-⟩:=EY.BQ;obtain ⟨vZ,vg,vk,-,-⟩:=Tt.BQ
 try clear Nz O1 O4 O5
 obtain ⟨Nz,O1,O4,O5,-,-,-⟩:=LQ.Az;obtain ⟨vw,wE,wF,aa5,-,-,-⟩:=Wi.Az;go_wp2_with fail;refine (HS.out (afc gV) (axq.out.mono (amu gV)) (rP gV) (.slice (some ⟨gV.heap.size+1+1+1,0,none⟩) 2 2) (axa gV) (afC.out.trans rfl)).mono ?_;rintro e w20 ⟨rfl,amS⟩;have ZJ:=AA (bT (amu gV) amS);clear amS EY JD JE JF Tt vZ vg vk LQ Nz O1 O4 O5 Wi vw wE wF aa5 y4 y5;have EY:=(Nc.out.keep abH.out).keep ZJ.out;have Tt:=(amy.out.keep rQ.out).keep ZJ.out;have LQ:=(afh.out.keep rQ.out).keep ZJ.out
 try clear JD JE JF
 obtain ⟨JD,JE,JF,-,-⟩:=EY.BQ
 try clear vZ vg vk
 obtain ⟨vZ,vg,vk,-,-⟩:=Tt.BQ
 try clear Nz O1 O4 O5
 obtain ⟨Nz,O1,O4,O5,-,-,-⟩:=LQ.Az;go_wp2_with fail;refine (GV.out _ (bT rQ.out ZJ.out)).mono ?_;rintro e w21 ⟨rfl,amT⟩;have abI:=AA (bT ZJ.out amT);clear amT EY JD JE JF Tt vZ vg vk LQ Nz O1 O4 O5;have Wi:=jk.out.keep abI.out;have y4:=Eh abI.out HY4.out;have y5:=Eh abI.out YE.out
 try clear vw wE wF aa5
 obtain ⟨vw,wE,wF,aa5,-,-,-⟩:=Wi.Az;go_wp2;go_ret;exact ⟨rfl,bT MW.out (bT abH.out abI.out)⟩
theorem Row.axI {w:World} {A:Option Addr} {l:List Pt} (h:Row w A (l.flatMap Ee)) (h0:0<l.length) :
  ∃ b o,A=some ⟨b,o,none⟩/\b<w.heap.size/\∀ j (hj:j<l.length),w.cell? ⟨b,o+j*2,none⟩=some (.int .i64 l[j].x)/\w.cell? ⟨b,o+j*2+1,none⟩=some (.int .i64 l[j].y):=by
 obtain ⟨b,o,hA,hb,-⟩:=h.pt h0;refine ⟨b,o,hA,hb,fun j hj=>?_⟩;obtain ⟨b',o',hA',-,c0,c1⟩:=h.pt hj;rw [hA] at hA';obtain ⟨rfl,rfl⟩:b=b'/\o=o':=by simpa using hA'
 exact ⟨c0,c1⟩
theorem amU:StructOf Tryz.prog 73 4:=.PU Tryz.underlying73 I8
theorem axJ (v:Value) (l:List Pt) (w:World) (h:Dv w v l) (hpos:0<l.length) :
  Calls Tryz.prog 47 #[v] w fun e w'=>e=.returned (.agg (gK (P8 l)))/\AU w w':=by
 obtain ⟨A,c,rfl,h1,h2,hR⟩:=h;unfold maxLen at h2;obtain ⟨b,o,rfl,hlb,hc⟩:=Row.axI hR hpos;obtain ⟨u0,u1⟩:=hc 0 hpos;simp only [sU,YJ] at u0 u1;obtain ⟨r,hr⟩:=BN (P8 l);rw [hr];have HR:=AA (show l.foldl Oc ⟨l[0].x,l[0].y,l[0].x,l[0].y⟩=r by
  rw [<- hr]
  cases l with
  | nil=>simp at hpos
  | cons p l=>rfl)
 have HI:=AA (show (⟨l[0].x,l[0].y,l[0].x,l[0].y⟩:Bx)=(l.take 1).foldl Oc ⟨l[0].x,l[0].y,l[0].x,l[0].y⟩ by
  cases l with
  | nil=>simp at hpos
  | cons p l =>
   show _=Oc ⟨p.x,p.y,p.x,p.y⟩ p
   unfold Oc;simp)
 have HC:=AA hc;obtain ⟨ln,hln⟩:=BN l.length;have HLn:=AA hln;rw [hln] at h1 hpos ⊢;obtain ⟨p0,hp0⟩:∃ p,l[0]=p:=⟨_,rfl⟩;rw [hp0] at u0 u1 HR HI;clear hr hc hR hp0 hln;have v1:(0:Int)<ln:=by omega
 have v2:((ln:Int) == 0)=false:=by simp;omega
 have v3:¬ ln=0:=by omega
 unfold gK;obtain ⟨g2,hg2⟩:∃ g,w.heap.size=g:=⟨_,rfl⟩;obtain ⟨W,hW⟩:=BR (w.alloc (.cells #[.int .i64 0,.int .i64 0,.int .i64 0,.int .i64 0] 73));have hA:AU w W:=by rw [hW];exact bA (bR w) _
 have X2:AO W g2 73 #[.int .i64 0,.int .i64 0,.int .i64 0,.int .i64 0]:=by rw [hW];exact AO.made hg2.symm _ _
 have HB:=AA hA;have CG:=AA X2;go_enter Tryz.func47,Tryz.ntmps47;go_upto_region 3 with fail
 try rw [<- hW]
 have hgw:w.heap.size<=g2:=by omega
 have hbg:b<g2:=by omega
 have hbW:b<W.heap.size:=LW hlb hA.size;replace u0:=Eh hA u0;replace u1:=Eh hA u1;clear hW hg2 hA;go_cut [3] (fun u wx=>∃ g3,u=.pointer (some ⟨g3,0,none⟩)/\AO wx g3 73 #[.int .i64 p0.x,.int .i64 p0.y,.int .i64 p0.x,.int .i64 p0.y]/\W.heap.size<=g3/\AU W wx)
 case first =>
  refine Rz (W.heap.size) (W) (.run 17 0 0 (.call 17 262143 (.call 18 524287 (.done)))) fun CU QR Ae Ah hS=>?_
  iterate 17 refine Aj ?_
  refine Bj ?_;clear hS;intro K hK AQ;go_simp;have XQy:Below (W.heap.size) W (W.drew):=AQ.out;have XQz:W.heap.size<=(W.drew).heap.size:=EH AB (show Below (W.heap.size) W (W.drew) from AQ.out).size;refine hK.out _ _ (IB AB AQ.out _) (fun hS=>?_);clear hK K AQ
  try replace XQ:=XQ.alloc (.cells #[.int .i64 0,.int .i64 0,.int .i64 0,.int .i64 0] 73)
  have XQ:=AO.new (W.drew) 73 #[.int .i64 0,.int .i64 0,.int .i64 0,.int .i64 0]
  try simp only [World.size_drew,World.size_alloc] at XQ XQz
  try simp only [pu]
  refine Bj ?_;clear hS;intro K hK AQ;obtain ⟨XQl,XQa,XQb,XQc,XQd,XQe,XQf,XQg,XQh⟩:=XQ.N7;go_simp;refine hK.out _ _ (by unfold GK;have h:Below _ _ _:=AQ.out;repeat (first | with_reducible assumption | with_reducible exact Below.refl _ _ | with_reducible refine MO ?_ OB _ | with_reducible refine Below.drew ?_ | with_reducible refine IB AB ?_ _ | exact h)) ?_;intro hS;clear hK K AQ
  try simp only [pu]
  refine LY ?_;clear hS Ah Ae;intro hB;go_wp2;go_meet
  case rel => exact ⟨_,rfl,(by first | with_reducible exact AO.jA XQ | with_reducible exact AO.made rfl _ _ | with_reducible exact AO.drew (AO.made rfl _ _)),DK,hB⟩
 case rest =>
 obtain ⟨g3,rfl,X3,hg3,hb3⟩:=hcut;obtain ⟨W3,hW3⟩:=BR wc;rw [<- hW3] at X3 hb3 ⊢;have HB3:=AA (bT HB.out hb3);have qN:=AA (CG.out.keep hb3);have Ej:=AA X3;have axK:g2<g3:=by have:=CG.out.lt;omega
 have axL:w.heap.size<=g3:=by omega
 have azP:b<g3:=by omega
 clear hW3 hb3 X3 X2 u0 u1 hbW;go_wp2_with fail;go_loopw [4] (fun u wr=>∃ (k:Nat) (x:Bx),1<=k/\k<=ln/\u=.int .i64 k/\x=(l.take k).foldl Oc ⟨p0.x,p0.y,p0.x,p0.y⟩/\AO wr g3 73 #[.int .i64 x.x0,.int .i64 x.y0,.int .i64 x.x1,.int .i64 x.y1]/\Below g3 W3 wr) (fun u _=>ln-(intOf u).toNat)
 case atStart => exact ⟨1,⟨p0.x,p0.y,p0.x,p0.y⟩,Dc _,hpos,rfl,HI.out,Ej.out,Below.refl _ _⟩
 case round =>
  obtain ⟨k,x,hk1,hk,rfl,hx,X3,hb⟩:=hrel;have Hb:=AA hb;have HX:=AA hx;have yU:=AA X3;have l3:=X3.lt;have Ep:=AA (show AU w wr from HB3.out.trans (hb.mono axL));clear hb hx;by_cases hlt:k<ln
  ·have hkl:k<l.length:=by rw [HLn.out];exact hlt
   obtain ⟨c0,c1⟩:=HC.out k hkl;replace c0:=Eh Ep.out c0;replace c1:=Eh Ep.out c1;have hst:(l.take (k+1)).foldl Oc ⟨p0.x,p0.y,p0.x,p0.y⟩=Oc x l[k]:=by
    rw [F7 hkl,Oi,<- HX.out];rfl
   unfold Oc at hst;have DU:=AA hst;obtain ⟨q,hq⟩:=BN (l[k]);rw [hq] at c0 c1 DU;clear hq hst hkl;have hbr:b<wr.heap.size:=by omega
   have hne:some b≠some g3:=fun e=>by have:=Dq e;omega
   have r1:0<=(k:Int):=by omega
   have r2:(k:Int)<ln:=by omega
   obtain ⟨Dk,EJ,ET,I9,KZ,dQ,uj,amf,amg⟩:=X3.N7;go_upto_region 7 with fail;have hmn:(⟨if q.x<x.x0 then q.x else x.x0,if q.y<x.y0 then q.y else x.y0,if x.x1<q.x then q.x else x.x1,if x.y1<q.y then q.y else x.y1⟩:Bx)=⟨min x.x0 q.x,min x.y0 q.y,max x.x1 q.x,max x.y1 q.y⟩:=by
    congr 1
    · split<;>omega
    · split<;>omega
    · split<;>omega
    · split<;>omega
   have HMn:=AA hmn;clear hmn;go_still_tail 33,I8;change wpList _ _ _ _ _ wr.drew;have KZ:=yU.out.drew;have afi:=AA KZ;have hbd:Below g3 W3 wr.drew:=Below.drew Hb.out;obtain ⟨wd,hwd⟩:=BR wr.drew;have MQ:=AA hbd;rw [<- hwd] at KZ afi MQ ⊢;clear hwd hbd X3 Dk EJ ET I9 c0 c1;obtain ⟨azQ,azR,azS,azT,azU,azV,azW,azX,azY⟩:=KZ.N7;go_wp2;go_roundw
   case rel => first | exact ⟨k+1,_,AB,AB,BJ,HMn.out.trans DU.out.symm,afi.out.jA,(((MQ.out.setCell (p:=⟨g3,0,none⟩) (Dc _) _).setCell (p:=⟨g3,1,none⟩) (Dc _) _).setCell (p:=⟨g3,2,none⟩) (Dc _) _).setCell (p:=⟨g3,3,none⟩) (Dc _) _⟩ | exact ⟨k+1,_,AB,AB,BJ,DU.out.symm,afi.out.jA,(((MQ.out.setCell (p:=⟨g3,0,none⟩) (Dc _) _).setCell (p:=⟨g3,1,none⟩) (Dc _) _).setCell (p:=⟨g3,2,none⟩) (Dc _) _).setCell (p:=⟨g3,3,none⟩) (Dc _) _⟩
   case measure => exact BL
  ·have hxr:x=r:=by rw [HX.out,IQ (by have:=HLn.out;omega),HR.out]
   have HXr:=AA hxr;have r2:¬ (k:Int)<ln:=by omega
   clear hxr;have X2:=qN.out.below Hb.out axK;have axM:=AA X2
   try clear Dk EJ ET I9 KZ
   try clear dQ uj amf amg
   obtain ⟨Dk,EJ,ET,I9,KZ,-,-,-,-⟩:=X3.N7;obtain ⟨BU,BX,Bg,CB,vG,Qp,V5,WI,afX⟩:=X2.N7;go_wp2_with fail;refine iL (g:=g2) (cs:=#[.int .i64 x.x0,.int .i64 x.y0,.int .i64 x.x1,.int .i64 x.y1]) rfl amU rfl rfl (AO.jA axM.out) ⟨by rw [HXr.out],?_⟩;exact (((Ep.out.setCell (p:=⟨g2,0,none⟩) hgw _).setCell (p:=⟨g2,1,none⟩) hgw _).setCell (p:=⟨g2,2,none⟩) hgw _).setCell (p:=⟨g2,3,none⟩) hgw _
theorem axN (v:Value) (w:World) (h:Dv w v []):Calls Tryz.prog 47 #[v] w fun e w'=>e=.returned (.agg (gK (P8 [])))/\AU w w':=by
 obtain ⟨A,c,rfl,-⟩:=h;have hz:(([] : List Pt).length:Int)=0:=rfl;unfold gK P8;simp only [LX];obtain ⟨g2,hg2⟩:∃ g,w.heap.size=g:=⟨_,rfl⟩;obtain ⟨W,hW⟩:=BR (w.alloc (.cells #[.int .i64 0,.int .i64 0,.int .i64 0,.int .i64 0] 73));have hA:AU w W:=by rw [hW];exact bA (bR w) _
 have X2:AO W g2 73 #[.int .i64 0,.int .i64 0,.int .i64 0,.int .i64 0]:=by rw [hW];exact AO.made hg2.symm _ _
 have HB:=AA hA;have CG:=AA X2;go_enter Tryz.func47,Tryz.ntmps47;go_upto_region 1 with fail;rw [<- hW]
 try rw [hg2]
 have hgw:w.heap.size<=g2:=by omega
 clear hW hg2 hA;obtain ⟨BU,BX,Bg,CB,vG,Qp,V5,WI,afX⟩:=X2.N7;go_wp2_with fail;refine iL (g:=g2) (cs:=#[.int .i64 0,.int .i64 0,.int .i64 (-1),.int .i64 (-1)]) rfl amU rfl rfl (AO.jA CG.out) ⟨rfl,?_⟩;exact (((HB.out.setCell (p:=⟨g2,0,none⟩) hgw _).setCell (p:=⟨g2,1,none⟩) hgw _).setCell (p:=⟨g2,2,none⟩) hgw _).setCell (p:=⟨g2,3,none⟩) hgw _
theorem axO (v:Value) (l:List Pt) (w:World) (h:Dv w v l):Calls Tryz.prog 47 #[v] w fun e w'=>e=.returned (.agg (gK (P8 l)))/\AU w w':=by
 cases l with
 | nil=>exact axN v w h
 | cons p l=>exact axJ v (p::l) w h Ak
structure Lgt (p:Pl):Prop where
 nodes:p.nodes.length<=30
 AP:p.AP.length<=30
 faces:p.faces.length<=30
 Kw:∀ a∈p.AP,a.via.length<=180
def axP (w:World) (p:Pl) (e:Ending) (w':World):Prop:=∃ b,e=.returned (.bool b)/\(b=true->Lgt p)/\AU w w'
theorem axQ (v:Value) (p:Pl) (w:World) (h:Ci w v p) (hsz:∀ a∈p.AP,a.via.length<=9223372036854775000):Calls Tryz.prog 15 #[v] w (axP w p):=by
 have Un:=AA hsz;clear hsz;obtain ⟨_,_,_,al,rfl,hpa,⟨An,cn,rfl,hn1,hn2,hR⟩,⟨⟨Aa,ca,rfl,hm1,hm2,FD⟩,Vw⟩,⟨Af,cf,rfl,-⟩⟩:=h;have HRn:=AA hR;have GN:=AA FD;have jL:=AA Vw;have Kv:=AA hpa;have hnv:p.AP.length=al.length:=by rw [hpa,Cj]
 obtain ⟨nn,hnn⟩:∃ n,p.nodes.length=n:=⟨_,rfl⟩;obtain ⟨na,hna⟩:∃ n,al.length=n:=⟨_,rfl⟩;obtain ⟨nf,hnf⟩:∃ n,p.faces.length=n:=⟨_,rfl⟩;have qJ:=AA hnn;have Xx:=AA hna;have HNf:=AA hnf;have WJ:=AA hnv;rw [hnn,hna,hnf];clear hR FD Vw hpa hnv hnn hna hnf hn1 hn2 hm1 hm2;go_enter Tryz.func15,Tryz.ntmps15;go_upto_region 1 with fail;obtain ⟨W1,hW⟩:∃ W:World,W=w.alloc (.cells #[.slice An nn cn,.slice Aa na ca,.slice Af nf cf] 26):=⟨_,rfl⟩;have X1:AO W1 w.heap.size 26 #[.slice An nn cn,.slice Aa na ca,.slice Af nf cf]:=by rw [hW];exact AO.made rfl _ _
 have HB1:=AA (show AU w W1 by rw [hW];exact bA (bR w) _);obtain ⟨g1,h1⟩:∃ g,w.heap.size=g:=⟨_,rfl⟩;have hg1:w.heap.size<=g1:=by omega
 rw [<- hW];rw [h1] at X1 ⊢;have Dt:=AA X1;clear hW h1;obtain ⟨BF,BG,BH,BI,-,-,-⟩:=X1.Az;by_cases h1:30<nn
 ·have k1:(30:Int)<nn:=by omega
  go_wp2;go_ret;exact ⟨false,rfl,fun h=>(by cases h),HB1.out⟩
 by_cases h2:30<na
 ·have k1:¬ (30:Int)<nn:=by omega
  have k2:(30:Int)<na:=by omega
  go_wp2;go_ret;exact ⟨false,rfl,fun h=>(by cases h),HB1.out⟩
 by_cases h3:30<nf
 ·have k1:¬ (30:Int)<nn:=by omega
  have k2:¬ (30:Int)<na:=by omega
  have k3:(30:Int)<nf:=by omega
  go_wp2;go_ret;exact ⟨false,rfl,fun h=>(by cases h),HB1.out⟩
 have k1:¬ (30:Int)<nn:=by omega
 have k2:¬ (30:Int)<na:=by omega
 have k3:¬ (30:Int)<nf:=by omega
 go_upto_block 0 with fail;clear k1 k2 k3 X1 BF BG BH BI;go_wp2_with fail;go_loopw [4,3] (fun i s wr=>∃ (k:Nat) (l:List Pt),k<=nn/\i=.int .i64 k/\(∃ A c,s=.slice A l.length c)/\Own wr W1.heap.size 39 2 Ee s l/\l.length=k/\AU W1 wr) (fun i _ _=>nn-(intOf i).toNat)
 case atStart => exact ⟨0,[],Bv _,rfl,⟨_,_,rfl⟩,Own.nil _ _ _ _ _,rfl,bR W1⟩
 case round =>
  obtain ⟨k,l,hk,rfl,⟨A,c,rfl⟩,ho,hl,hb⟩:=hrel;obtain ⟨wo,rfl⟩:=BR wr;have HO:=AA ho;have Hb:=AA hb;have qK:=AA hl;have hlk:l.length<=30:=by omega
  have X1:=Dt.out.keep hb;clear ho hb hl;by_cases hlt:k<nn
  ·obtain ⟨b,o,hA,hlb,c0,c1,c2⟩:=(HRn.out.mono (bT HB1.out Hb.out)).nd (k:=k) (by rw [qJ.out];exact hlt);subst hA;generalize p.nodes[k]'_=x at *;obtain ⟨id,x0,y0⟩:=x;simp only at c0 c1 c2;have hw1:=Hb.out.size;have hsh:(l++[(⟨x0,y0⟩:Pt)]).length=l.length+1:=by simp
   have DW:=AA hsh;clear hsh
   try clear BF BG BH BI
   obtain ⟨BF,BG,BH,BI,-,-,-⟩:=X1.Az;go_wp2_with
    (at_builtin
     refine FK _ rfl (.tmp 30) (.tmp 37) _ rfl (base:=W1.heap.size) L6 KJ L8 rfl (Own.alloc HO.out _) rfl (l2:=[(⟨x0,y0⟩:Pt)]) (Sl.lit (n:=1) (AO.made rfl _ _) rfl (DN AB)) DZ DZ DT ?_;intro v3 w3 ho3 hg3 LK;obtain ⟨A3,c3,hv3,-⟩:=ho3.sl;rw [DW.out] at hv3;subst hv3;have F5:=AA ho3;have HB3:=AA (show AU W1 w3 from bG (bA Hb.out _) hg3 (fun g hg=>(HO.out.lt g hg).1));clear ho3 hg3 LK X1 BF BG BH BI)
   go_roundw
   case rel => exact ⟨k+1,l++[⟨x0,y0⟩],AB,BJ,⟨A3,c3,by rw [DW.out]⟩,F5.out,by rw [DW.out,qK.out],HB3.out⟩
   case measure => exact BL
  ·obtain rfl:k=nn:=by omega
   obtain ⟨wA,rfl⟩:=BR wo;have hlA:l.length<=30:=hlk;clear qK
   try clear BF BG BH BI
   obtain ⟨BF,BG,BH,BI,-,-,-⟩:=X1.Az;go_upto_block 2 with fail;clear X1 BF BG BH BI;go_wp2_with fail;go_loopw [5,3] (fun i s wr=>∃ (k:Nat) (l:List Pt),k<=na/\i=.int .i64 k/\(∃ A c,s=.slice A l.length c)/\Own wr W1.heap.size 39 2 Ee s l/\l.length<=180/\(∀ j (hj:j<al.length),j<k->al[j].1.via.length<=180)/\AU W1 wr) (fun i _ _=>na-(intOf i).toNat)
   case atStart => exact ⟨0,l,Bv _,rfl,⟨_,_,rfl⟩,HO.out,AB,fun j _ hj=>by omega,Hb.out⟩
   case round =>
    obtain ⟨k,l,hk,rfl,⟨A,c,rfl⟩,ho,hl,hvs,hb⟩:=hrel;obtain ⟨wo,rfl⟩:=BR wr;have HO:=AA ho;have Hb:=AA hb;have qY:=AA hvs;have X1:=Dt.out.keep hb;have hw1:=hb.size;clear ho hb hvs;by_cases hlt:k<na
    ·have hka:k<al.length:=by rw [Xx.out];exact hlt
     obtain ⟨b,o,hA,hlb,c0,c1,c2,c3,c4,c5⟩:=(GN.out.mono (bT HB1.out Hb.out)).ar hka;subst hA;have hvv:=fun W (hW:AU w W)=>(jL.out k hka).mono hW;have hvz:al[k].1.via.length<=9223372036854775000:=Un.out _ (by rw [Kv.out];exact Gh (BO hka));have HVn:=AA (fun (h:al[k].1.via.length<=180)=>show ∀ j (hj:j<al.length),j<k+1->al[j].1.via.length<=180 from fun j hj hjk=>by
      by_cases e:j=k
      · subst e;exact h
      · exact qY.out j hj AB)
     generalize al[k]=x at *;obtain ⟨a,u⟩:=x;simp only at c3 hvv HVn hvz;obtain ⟨Av,cv,hue,hv1,hv2,-⟩:=hvv w (bR w);subst hue;have Rh:=AA hvv;unfold maxLen at hv2;obtain ⟨V,hV⟩:=BN a.via;rw [hV] at hv1 c3 Rh HVn hvz;clear hV hvv c0 c1 c2 c4 c5;have i1:0<=(k:Int):=by omega
     have i2:(k:Int)<na:=by omega
     have HB2:=AA (bT HB1.out Hb.out)
     try clear BF BG BH BI
     obtain ⟨BF,BG,BH,BI,-,-,-⟩:=X1.Az;by_cases hbig:180<l.length+V.length
     ·have hs1:(180:Int)<(l.length:Int)+V.length:=by omega
      have kw:IntKind.i64.wrap ((l.length:Int)+V.length)=l.length+V.length:=D6 _ AB;go_wp2;go_ret;exact ⟨false,rfl,fun h=>(by cases h),HB2.out⟩
     ·have hs1:¬ (180:Int)<(l.length:Int)+V.length:=by omega
      have kw:IntKind.i64.wrap ((l.length:Int)+V.length)=l.length+V.length:=D6 _ AB;have hsh:(l++V).length=l.length+V.length:=ER;have DW:=AA hsh;clear hsh;go_wp2_with
       (at_builtin
        refine FK _ rfl (.tmp 57) (.tmp 63) _ rfl (base:=W1.heap.size) L6 KJ L8 rfl HO.out rfl (l2:=V) (Rh.out _ HB2.out) AB AB AB ?_;intro v3 w3 ho3 hg3 LK;obtain ⟨A3,c3',hv3,-⟩:=ho3.sl;rw [DW.out] at hv3;subst hv3;have F5:=AA ho3;have HB3:=AA (show AU W1 w3 from bG Hb.out hg3 (fun g hg=>(HO.out.lt g hg).1));clear ho3 hg3 LK X1 BF BG BH BI)
      go_roundw
      case rel => exact ⟨k+1,l++V,AB,BJ,⟨A3,c3',by rw [DW.out]⟩,F5.out,by rw [DW.out];omega,HVn.out AB,HB3.out⟩
      case measure => exact BL
    ·obtain rfl:k=na:=by omega
     have HLg:=AA (show Lgt p from ⟨by rw [qJ.out];omega,by rw [WJ.out,Xx.out];omega,by rw [HNf.out];omega,fun a ha=>by
      rw [Kv.out] at ha;obtain ⟨z,hz,rfl⟩:=ED.1 ha;obtain ⟨j,hj,rfl⟩:=EF.1 hz;exact qY.out j hj (by rw [<- Xx.out];exact hj)⟩)
     have Eo:=axO _ l wo HO.out.sl;unfold gK at Eo;generalize P8 l=bx at *;obtain ⟨x0,y0,x1,y1⟩:=bx;simp only at Eo;have FP:=AA Eo;clear Eo qY
     try clear BF BG BH BI
     obtain ⟨BF,BG,BH,BI,-,-,-⟩:=X1.Az;go_wp2_with fail;refine FP.out.mono ?_;rintro e w5 ⟨rfl,hb5⟩;have Cm:=AA (bT (bT HB1.out Hb.out) hb5);clear hb5 FP X1 BF BG BH BI;go_wp2_with fail
     all_goals
      go_ret;exact ⟨_,rfl,fun _=>HLg.out,bA Cm.out _⟩
theorem amV (v u:Value) (p:Pl) (w:World) (h:Ci w v p) (h':Ci w u p):Calls Tryz.prog 23 #[v,u] w fun e w'=>e=.returned (.bool true)/\AU w w':=by
 obtain ⟨_,_,_,al,rfl,hpa,⟨An,cn,rfl,hn1,hn2,zC⟩,⟨⟨Aa,ca,rfl,ha1,ha2,FD⟩,hV⟩,⟨Af,cf,rfl,hf1,hf2,fB⟩⟩:=h;obtain ⟨_,_,_,bl,rfl,hpb,⟨Bn,dn,rfl,-,-,hSn⟩,⟨⟨Ba,da,rfl,-,-,hSa⟩,hU⟩,⟨Bf,df,rfl,-,-,hSf⟩⟩:=h';have hll:bl.length=al.length:=by have:=congrArg List.length (hpa.symm.trans hpb);simpa using this.symm
 have HAt:=AA (fun k (h1:k<al.length) (h2:k<bl.length)=>show al[k].1=bl[k].1 from by
  have e1:(al.map (·.1))[k]'(by simpa using h1)=al[k].1:=by rw [Gp]
  have e2:(bl.map (·.1))[k]'(by simpa using h2)=bl[k].1:=by rw [Gp]
  rw [<- e1,<- e2];congr 1;exact hpa.symm.trans hpb)
 have HRn:=AA zC;have GN:=AA FD;have Wy:=AA fB;have Xu:=AA hSn;have ZU:=AA hSa;have kE:=AA hSf;have HV:=AA hV;have HU:=AA hU;have JQ:=AA hll;unfold maxLen at hn2 ha2 hf2;rw [hll];obtain ⟨L,hL⟩:=BN p.nodes;obtain ⟨F,hF⟩:=BN p.faces;rw [hL] at hn1 HRn Xu ⊢;rw [hF] at hf1 Wy kE ⊢;have hb1:L.length<=9223372036854775807:=by omega
 have hb2:al.length<=9223372036854775807:=by omega
 have hb3:F.length<=9223372036854775807:=by omega
 clear zC FD fB hSn hSa hSf hV hU hpa hpb hll hL hF hn1 hn2 ha1 ha2 hf1 hf2;go_enter Tryz.func23,Tryz.ntmps23;go_upto_region 1 with fail;obtain ⟨W1,hW⟩:∃ W:World,W=(w.alloc (.cells #[.slice An L.length cn,.slice Aa al.length ca,.slice Af F.length cf] 26)).alloc (.cells #[.slice Bn L.length dn,.slice Ba al.length da,.slice Bf F.length df] 26):=⟨_,rfl⟩;have X2:AO W1 w.heap.size 26 #[.slice An L.length cn,.slice Aa al.length ca,.slice Af F.length cf]:=by rw [hW];exact (AO.made rfl _ _).alloc _
 have X3:AO W1 (w.heap.size+1) 26 #[.slice Bn L.length dn,.slice Ba al.length da,.slice Bf F.length df]:=by rw [hW];exact AO.made Ak _ _
 have HB1:=AA (show AU w W1 by rw [hW];exact bA (bA (bR w) _) _);rw [<- hW];clear hW;have CG:=AA X2;have Ej:=AA X3;obtain ⟨BU,BX,Bg,CB,-,-,-⟩:=X2.Az;obtain ⟨Dk,EJ,ET,I9,-,-,-⟩:=X3.Az;go_wp2_with fail;go_loopw [5] (fun u wr=>∃ k:Nat,k<=L.length/\u=.int .i64 k/\AU W1 wr) (fun u _=>L.length-(intOf u).toNat)
 case atStart => exact ⟨0,Bv _,rfl,bR W1⟩
 case round =>
  obtain ⟨k,hk,rfl,hb⟩:=hrel;obtain ⟨wo,rfl⟩:=BR wr;have Hb:=AA hb;clear hb X2 BU BX Bg CB X3 Dk EJ ET I9;have X2:=CG.out.keep Hb.out;have X3:=Ej.out.keep Hb.out
  try clear BU BX Bg CB
  obtain ⟨BU,BX,Bg,CB,-,-,-⟩:=X2.Az
  try clear Dk EJ ET I9
  obtain ⟨Dk,EJ,ET,I9,-,-,-⟩:=X3.Az;by_cases hlt:k<L.length
  ·obtain ⟨b,o,rfl,hlb,c0,c1,c2⟩:=(HRn.out.mono (bT HB1.out Hb.out)).nd hlt;obtain ⟨b',o',rfl,QJ,d0,d1,d2⟩:=(Xu.out.mono (bT HB1.out Hb.out)).nd hlt;generalize L[k]=n at *;have hE:=anF n n;have ht:(!decide (n=n))=false:=by simp
   rw [ht] at hE;clear ht;have k1:(k:Int)<L.length:=by omega
   have k2:0<=(k:Int):=by omega
   go_upto_region 6 with fail;refine DJ (wo) (.run 11 0 0 (.done)) fun CU QR Ae Ah hS=>?_
   iterate 11 refine Aj ?_
   refine DF ?_;clear hS Ah Ae;intro hB;have HB4:=AA (bT Hb.out hB);clear hB X2 BU BX Bg CB X3 Dk EJ ET I9 c0 c1 c2 d0 d1 d2 hE;go_wp2;go_roundw
   case rel => exact ⟨k+1,AB,BJ,HB4.out⟩
   case measure => exact BL
  ·have k1:¬ (k:Int)<L.length:=by omega
   clear hlt;go_wp2_with fail;go_loopw [6] (fun u wr=>∃ k:Nat,k<=al.length/\u=.int .i64 k/\AU W1 wr) (fun u _=>al.length-(intOf u).toNat)
   case atStart => exact ⟨0,Bv _,rfl,Hb.out⟩
   case round =>
    obtain ⟨j,hj,rfl,hb⟩:=hrel;obtain ⟨wi,rfl⟩:=BR wr;have Hb2:=AA hb;clear hb X2 BU BX Bg CB X3 Dk EJ ET I9;have X2:=CG.out.keep Hb2.out;have X3:=Ej.out.keep Hb2.out
    try clear BU BX Bg CB
    obtain ⟨BU,BX,Bg,CB,-,-,-⟩:=X2.Az
    try clear Dk EJ ET I9
    obtain ⟨Dk,EJ,ET,I9,-,-,-⟩:=X3.Az;by_cases hlt:j<al.length
    ·have hlt':j<bl.length:=by rw [JQ.out];exact hlt
     obtain ⟨b,o,rfl,hlb,c0,c1,c2,c3,c4,c5⟩:=(GN.out.mono (bT HB1.out Hb2.out)).ar hlt;obtain ⟨b',o',rfl,QJ,d0,d1,d2,d3,d4,d5⟩:=(ZU.out.mono (bT HB1.out Hb2.out)).ar hlt';have v1:=HV.out j hlt;have v2:=HU.out j hlt';obtain ⟨Av,cv,hva,-⟩:=id v1;obtain ⟨Au,cu,qL,-⟩:=id v2;have hh:=HAt.out j hlt hlt';rw [<- hh] at d0 d1 d2 d4 d5 qL v2;rw [hva] at c3 v1;rw [qL] at d3 v2;generalize al[j].1=a at *;have HS:=AA (fun W (hW:AU w W)=>show Calls Tryz.prog 68 #[UQ a (.slice Av a.via.length cv),UQ a (.slice Au a.via.length cu)] W fun e w'=>e=.returned (.bool true)/\AU W w' from by
      have t:=aoD a a _ _ W (v1.mono hW) (v2.mono hW);rw [JO rfl] at t;exact t)
     unfold UQ at HS;have k1:(j:Int)<al.length:=by omega
     have k2:0<=(j:Int):=by omega
     clear v1 v2 hva qL hh;go_upto_region 11 with fail;refine DJ (wi) (.run 10 0 0 (.call 10 2047 (.take 11 4095 (.done)))) fun CU QR Ae Ah hS=>?_
     iterate 10 refine Aj ?_
     refine GL (HS.out _ (bT (bT HB1.out Hb2.out) (bD (bR wi)))) ?_;clear hS;intro CX CV hS;refine Aj ?_;refine DF ?_;clear hS Ah Ae;intro hB;have HB4:=AA (bT Hb2.out hB);clear hB X2 BU BX Bg CB X3 Dk EJ ET I9 c0 c1 c2 c3 c4 c5 d0 d1 d2 d3 d4 d5;go_wp2;go_roundw
     case rel => exact ⟨j+1,AB,BJ,HB4.out⟩
     case measure => exact BL
    ·have k3:¬ (j:Int)<al.length:=by omega
     clear hlt;go_wp2_with fail;go_loopw [7] (fun u wr=>∃ k:Nat,k<=F.length/\u=.int .i64 k/\AU W1 wr) (fun u _=>F.length-(intOf u).toNat)
     case atStart => exact ⟨0,Bv _,rfl,Hb2.out⟩
     case round =>
      obtain ⟨i,hi,rfl,hb⟩:=hrel;obtain ⟨wf,rfl⟩:=BR wr;have Hb3:=AA hb;clear hb X2 BU BX Bg CB X3 Dk EJ ET I9;have X2:=CG.out.keep Hb3.out;have X3:=Ej.out.keep Hb3.out
      try clear BU BX Bg CB
      obtain ⟨BU,BX,Bg,CB,-,-,-⟩:=X2.Az
      try clear Dk EJ ET I9
      obtain ⟨Dk,EJ,ET,I9,-,-,-⟩:=X3.Az;by_cases hlt:i<F.length
      ·obtain ⟨b,o,rfl,hlb,c0⟩:=(Wy.out.mono (bT HB1.out Hb3.out)).int hlt;obtain ⟨b',o',rfl,QJ,d0⟩:=(kE.out.mono (bT HB1.out Hb3.out)).int hlt;generalize F[i]=x at *;have k4:(i:Int)<F.length:=by omega
       have k5:0<=(i:Int):=by omega
       go_upto_region 16 with fail;refine DJ (wf) (.run 11 0 0 (.done)) fun CU QR Ae Ah hS=>?_
       iterate 11 refine Aj ?_
       refine DF ?_;clear hS Ah Ae;intro hB;have HB4:=AA (bT Hb3.out hB);clear hB X2 BU BX Bg CB X3 Dk EJ ET I9 c0 d0;go_wp2;go_roundw
       case rel => exact ⟨i+1,AB,BJ,HB4.out⟩
       case measure => exact BL
      ·have k4:¬ (i:Int)<F.length:=by omega
       go_wp2;go_ret;exact ⟨rfl,bT HB1.out Hb3.out⟩
