import Derived.Test.YtpempeioeiaijaaGreatLawIo
set_option linter.unusedSimpArgs false
set_option linter.unusedVariables false
set_option maxRecDepth 100000
set_option maxHeartbeats 8000000
namespace Go.Proofs.YtpempeioeiaijaaGreat
open Go.RowKit Go.Sort Tryz
theorem ayF (v:Value) (xs:List (SV×List Pt)) (w:World) (h:FY w v xs) (hl:Few (xs.map (·.2))):Calls prog 20 #[v] w (Lu w (xs.map (·.2))):=by
 obtain ⟨h1,h2⟩:=hl;by_cases hz:GZ (xs.map (·.2))=0
 · exact ayf v xs w h (Ve.1 hz)
 ·refine aye v xs w h (by simp at h1;omega) (fun k hk=>?_) hz;have:=h2 _ (FZ (BO hk))
  omega
theorem ayG {L:List (List Pt)} (h:O1 L=0):YS (L9 L)=0:=by
 have e:L9 L=J6 (IK L):=by unfold L9;rw [AZ h]
 rw [e];refine axH ?_;unfold O1 at h;split at h
 · rename_i h1;exact absurd h h1
 ·split at h
  · cases h
  ·split at h
   · cases h
   · exact h
theorem ayH (v:Value) (xs:List (SV×List Pt)) (w:World) (h:FY w v xs):Calls prog 8 #[v] w fun e w'=>e=.returned (.bool true)/\AU w w':=by
 obtain ⟨xJ,aJ,HX⟩:=CG (fun W=>ayC W) (ay3 v xs w h) h;obtain ⟨⟨A,c,rfl,-⟩,-⟩:=h
 cases hl:jq (xs.map (·.2))
 case false =>
  rw [hl] at aJ;clear hl HX;generalize xs.length=n at *;go_enter func8,ntmps8;go_wp2_with fail;refine aJ.1.mono ?_;rintro e w1 ⟨rfl,hb1⟩;go_wp2_with fail;refine (xJ.1 _).mono ?_;rintro e w2 ⟨rfl,hb2⟩;go_wp2;go_ret;exact ⟨rfl,bT hb1 hb2⟩
 case true =>
  rw [hl] at aJ;have oO:=AB (show Few (xs.map (·.2)) from ayo hl);clear hl;obtain ⟨VQ,nM,HSa⟩:=CG (fun W (hW:AU w W)=>ayE _ xs W (HX.1.mono hW) oO.1) (fun W (hW:AU w W)=>ayF _ xs W (HX.1.mono hW) oO.1) (fun u1 u2 P W (h1:D6 W u1 P) (h2:D6 W u2 P)=>ayD u1 u2 P W h1 h2);have hck:=fun (hz:O1 (xs.map (·.2))=0)=>ayG hz;unfold Lu at VQ nM;generalize O1 (xs.map (·.2))=z at *;generalize L9 (xs.map (·.2))=P at *;generalize xs.length=nx at *;obtain ⟨n1,hn1⟩:=BI P.nodes.length;obtain ⟨n2,hn2⟩:=BI P.AQ.length;obtain ⟨n3,hn3⟩:=BI P.faces.length;have Fe:=AB (fun u W (hu:D6 W u P)=>aw6 u P W hu);have HRz:=AB hck;obtain ⟨rz,hrz⟩:=BI (YS P);rw [hrz] at Fe HRz;clear HX oO hck hrz;go_enter func8,ntmps8;go_wp2_with fail;refine aJ.1.mono ?_;rintro e w1 ⟨rfl,hb1⟩;have HB1:=AB hb1;clear hb1 aJ;go_wp2_with fail;refine (VQ.1 _ HB1.1).mono ?_;rintro e w2' ⟨v2,rfl,hb2,hp2⟩;obtain ⟨An,cn,Aa,ca,Af,cf,hv2⟩:=hp2.xO;rw [hn1,hn2,hn3] at hv2;subst hv2;go_upto_region 4 with fail;obtain ⟨g3,hg3⟩:=BI w2'.heap.size;obtain ⟨W3,hW⟩:∃ W:World,W=w2'.alloc (.cells #[.slice An n1 cn,.slice Aa n2 ca,.slice Af n3 cf] 34):=⟨_,rfl⟩;have hA3:Below w2'.heap.size w2' W3:=by rw [hW];exact bA (bR w2') _
  obtain ⟨EY,OH,HW3⟩:=CG (show AO W3 g3 34 #[.slice An n1 cn,.slice Aa n2 ca,.slice Af n3 cf] by rw [hW];exact AO.made hg3.symm _ _) (hp2.mono hA3) (bT HB1.1 (bT hb2 hA3));rw [<- hW]
  try rw [hg3]
  clear hW hg3 hA3 hb2 hp2;go_wp2_with fail;refine (nM.1 _ HW3.1).mono ?_;rintro e w4 ⟨v4',rfl,hb4,hp4⟩;obtain ⟨Bn,dn,Ba,da,Bf,df,hv4⟩:=hp4.xO;rw [hn1,hn2,hn3] at hv4;subst hv4;obtain ⟨DL,XA,HW4⟩:=CG (EY.1.keep hb4) (OH.1.mono hb4) (bT HW3.1 hb4);go_upto_region 5 with fail;obtain ⟨g5,hg5⟩:=BI w4.heap.size;obtain ⟨W5,hW⟩:∃ W:World,W=w4.alloc (.cells #[.slice Bn n1 dn,.slice Ba n2 da,.slice Bf n3 df] 34):=⟨_,rfl⟩;have PO:AU w4 W5:=by rw [hW];exact bA (bR w4) _
  obtain ⟨HY5,DX,Qr,WV,HW5⟩:=I4 (show AO W5 g5 34 #[.slice Bn n1 dn,.slice Ba n2 da,.slice Bf n3 df] by rw [hW];exact AO.made hg5.symm _ _) (DL.1.keep PO) (XA.1.mono PO) (D6.mono hp4 PO) (bT HW4.1 PO);rw [<- hW]
  try rw [hg5]
  clear hW hg5 PO hb4 hp4 DL XA HW4 EY OH HW3 VQ nM hn1 hn2 hn3;have X3:=DX.1;have X5:=HY5.1;have hzz:(z != z)=false:=by simp
  obtain ⟨Dk,EI,EN,Gv,-⟩:=X3.Az;obtain ⟨DI,DJ,DU,IJ,-⟩:=X5.Az;go_wp2_with fail;refine (HSa.1 _ _ P _ Qr.1 WV.1).mono ?_;rintro e w6 ⟨rfl,hb6⟩;obtain ⟨HW6,JM,UH⟩:=CG (bT HW5.1 hb6) (DX.1.keep hb6) (Qr.1.mono hb6);clear hb6 X3 Dk EI EN Gv X5 DI DJ DU IJ DX HY5 Qr WV HW5 hzz;go_wp2_with fail;refine (xJ.1 _).mono ?_;rintro e w8 ⟨rfl,hb8⟩;obtain ⟨HW8,TR,Wi⟩:=CG (bT HW6.1 hb8) (JM.1.keep hb8) (UH.1.mono hb8);clear hb8 JM UH HW6;by_cases hz:z=0
  ·subst hz;have hr0:rz=0:=HRz.1 rfl;subst hr0;have X3:=TR.1
   try clear Dk EI EN Gv
   obtain ⟨Dk,EI,EN,Gv,-⟩:=X3.Az;go_wp2_with fail;refine (Fe.1 _ _ Wi.1).mono ?_;rintro e w9 ⟨rfl,Nh⟩;have HW9:=AB (bT HW8.1 Nh);clear Nh X3 Dk EI EN Gv;go_wp2;go_ret;exact ⟨CP Ah,HW9.1⟩
  ·have hz':(z != 0)=true:=by simpa using hz
   clear hz;go_wp2;go_ret;exact ⟨CP Ah,HW8.1⟩
