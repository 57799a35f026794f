import Derived.Test.YtialfdomhoojiaaGreatQJ35
set_option linter.unusedSimpArgs false
set_option linter.unusedVariables false
set_option maxRecDepth 100000
set_option maxHeartbeats 8000000
namespace Go.Proofs.YtialfdomhoojiaaGreat
open Go.RowKit
theorem amW (v:Value) (p:Pl) (w:World) (h:Ci w v p) (hm:Mod p):Calls Tryz.prog 21 #[v] w (amK w p):=by
 by_cases hz:IG (Bq p)=0
 ·refine (alJ v p w h hm hz).mono ?_;rintro e w' (⟨h64,rfl,hb⟩ | ⟨h64,An,cn,Aa,ca,Af,cf,bl,rfl,hb,hp⟩)
  ·have hl:MG p=3:=by unfold MG;rw [AX (by simpa using hz),AZ h64]
   exact ⟨aCw,pl0,by rw [hl],hb,Ci.zero _,by rw [hl,AX Aw]⟩
  ·have hl:MG p=0:=by unfold MG;rw [AX (by simpa using hz),AX h64]
   exact ⟨_,H6 p,by rw [hl],hb,hp.dV,by rw [hl,AZ rfl]⟩
 ·refine (avA v p w h hm hz).mono ?_;rintro e w' ⟨rfl,hb⟩;have hl:MG p=IG (Bq p):=by unfold MG;rw [AZ hz]
  exact ⟨aCw,pl0,by rw [hl],hb,Ci.zero _,by rw [hl,AX hz]⟩
theorem Lgt.mod {p:Pl} (h:Lgt p):Mod p/\(MG p=0->Mod (H6 p)):=by
 have h1:=h.nodes;have h2:=h.AP;refine ⟨⟨AB,AB,fun a ha=>EH (h.Kw a ha) AB⟩,fun _=>⟨by show p.nodes.length<=_;omega,?_,fun a ha=>?_⟩⟩
 ·show ((p.AP.map Nr).map _).length<=_
  rw [Cj,Cj];omega
 ·obtain ⟨b,hb,rfl⟩:=ED.1 (show a∈(p.AP.map Nr).map _ from ha);obtain ⟨c,hc,rfl⟩:=ED.1 hb;exact EH (h.Kw c hc) AB
theorem axR (v:Value) (p:Pl) (w:World) (h:Ci w v p) (hs:jX p) :
  Calls Tryz.prog 4 #[v] w fun e w'=>e=.returned (.bool true)/\AU w w':=by
 have aBk:=AA (fun W (hW:AU w W)=>axQ v p W (h.mono hW) (fun a ha=>EH (hs a ha) AB));have RD:=AA (fun hm W (hW:AU w W)=>amW v p W (h.mono hW) hm);have HL2:=AA (fun hm W (hW:AU w W)=>avp v p W (h.mono hW) hm);have qO:=AA axb;have HLg:=AA (fun u q W (hm:Mod q) (hu:Ci W u q)=>amW u q W hu hm);have GV:=AA (fun u q W (hu:Ci W u q)=>al3 u q W hu);obtain ⟨An,cn,Aa,ca,Af,cf,rfl⟩:=h.form;clear h hs;generalize p.nodes.length=nn at *;generalize p.AP.length=na at *;generalize p.faces.length=nf at *;go_enter Tryz.func4,Tryz.ntmps4;go_upto_region 1 with fail;obtain ⟨g2,hg2⟩:∃ g,w.heap.size=g:=⟨_,rfl⟩;obtain ⟨W1,hW⟩:∃ W:World,W=w.alloc (.cells #[.slice An nn cn,.slice Aa na ca,.slice Af nf cf] 26):=⟨_,rfl⟩;have X2:AO W1 g2 26 #[.slice An nn cn,.slice Aa na ca,.slice Af nf cf]:=by rw [hW,<- hg2];exact AO.made rfl _ _
 have HB1:=AA (show AU w W1 by rw [hW];exact bA (bR w) _);rw [<- hW]
 try rw [hg2]
 clear hW hg2;have CG:=AA X2;obtain ⟨BU,BX,Bg,CB,-,-,-⟩:=X2.Az;go_wp2_with fail;refine (aBk.out _ HB1.out).mono ?_;rintro e w2 ⟨lt,rfl,hlt,hb2⟩;have HB2:=AA (bT HB1.out hb2);have lG:=AA (CG.out.keep hb2);clear hb2 X2 BU BX Bg CB CG HB1 aBk
 cases lt
 case false =>
  go_wp2_with fail;refine (qO.out _).mono ?_;rintro e w3 ⟨rfl,hb3⟩;have HB3:=AA (bT HB2.out hb3);clear hb3;go_wp2;go_ret;exact ⟨rfl,HB3.out⟩
 have ku:=AA (hlt rfl).mod;have yI:=AA (RD.out ku.out.1);have HG2:=AA (HL2.out ku.out.1);clear RD HL2 hlt;have X2:=lG.out
 try clear BU BX Bg CB
 obtain ⟨BU,BX,Bg,CB,-,-,-⟩:=X2.Az;go_wp2_with fail;refine (yI.out _ HB2.out).mono ?_;rintro e w5 ⟨v5,q,rfl,hb5,kD,hq5⟩;obtain ⟨A5,c5,D5,d5,E5,e5,rfl⟩:=kD.form;have U8:=AA kD;have Cm:=AA (bT HB2.out hb5);have qV:=AA (lG.out.keep hb5);have nZ:=AA hq5;clear hb5 kD hq5 X2 BU BX Bg CB lG HB2;generalize hn1:q.nodes.length=n1 at *;generalize hn2:q.AP.length=n2 at *;generalize hn3:q.faces.length=n3 at *;have HN1:=AA hn1;have OE:=AA hn2;have HN3:=AA hn3;clear hn1 hn2 hn3;obtain ⟨z,hz⟩:=BN (MG p);have HZ:=AA hz;rw [hz];clear hz;go_upto_region 4 with fail;obtain ⟨g5,hg5⟩:∃ g,w5.heap.size=g:=⟨_,rfl⟩;obtain ⟨W5,hW⟩:∃ W:World,W=w5.alloc (.cells #[.slice A5 n1 c5,.slice D5 n2 d5,.slice E5 n3 e5] 26):=⟨_,rfl⟩;have hb:AU w5 W5:=by rw [hW];exact bA (bR w5) _
 have DI:=AA (show AO W5 g5 26 #[.slice A5 n1 c5,.slice D5 n2 d5,.slice E5 n3 e5] by rw [hW,<- hg5];exact AO.made rfl _ _);have HQ:=AA (U8.out.mono hb);have HC5:=AA (bT Cm.out hb);have Ej:=AA (qV.out.keep hb);rw [hg5,<- hW];clear hb hW U8 Cm qV hg5;have X2:=Ej.out
 try clear BU BX Bg CB
 obtain ⟨BU,BX,Bg,CB,-,-,-⟩:=X2.Az;go_wp2_with fail;refine (HG2.out _ HC5.out).mono ?_;rintro e w7 ⟨v7,q',rfl,hb7,hp7,hq7⟩;obtain rfl:q'=q:=hq7.trans nZ.out.symm;obtain ⟨A7,c7,D7,d7,E7,e7,rfl⟩:=hp7.form;simp only [HN1.out,OE.out,HN3.out,HZ.out] at hp7 ⊢;have VE:=AA hp7;have MW:=AA (bT HC5.out hb7);have YE:=AA (DI.out.keep hb7);have HR5:=AA (HQ.out.mono hb7);clear hb7 hp7 hq7 X2 BU BX Bg CB Ej HC5 DI HQ;go_upto_region 5 with fail;obtain ⟨g7,G9⟩:∃ g,w7.heap.size=g:=⟨_,rfl⟩;obtain ⟨W7,hW⟩:∃ W:World,W=w7.alloc (.cells #[.slice A7 n1 c7,.slice D7 n2 d7,.slice E7 n3 e7] 26):=⟨_,rfl⟩;have hb:AU w7 W7:=by rw [hW];exact bA (bR w7) _
 have Ip:=AA (show AO W7 g7 26 #[.slice A7 n1 c7,.slice D7 n2 d7,.slice E7 n3 e7] by rw [hW,<- G9];exact AO.made rfl _ _);have HQ7:=AA (VE.out.mono hb);have HZ5:=AA (YE.out.keep hb);have HR7:=AA (HR5.out.mono hb);have HC7:=AA (bT MW.out hb);rw [G9,<- hW];clear hb hW VE MW G9 YE HR5;have ZU:=AA (fun W (hW:AU W7 W)=>amV _ _ q' W (HR7.out.mono hW) (HQ7.out.mono hW));have X5:=HZ5.out;have X7:=Ip.out;obtain ⟨CJ,CO,CS,F8,-,-,-⟩:=X5.Az;obtain ⟨Eb,Ec,Fe,aAn,-,-,-⟩:=X7.Az;go_wp2_with fail;refine (ZU.out _ (bR W7)).mono ?_;rintro e w8 ⟨rfl,hb8⟩;have Ls:=AA (bT HC7.out hb8);have UO:=AA (HZ5.out.keep hb8);have HR8:=AA (HR7.out.mono hb8);clear hb8 X5 CJ CO CS F8 X7 Eb Ec Fe aAn ZU Ip HQ7 HZ5 HR7 HC7;by_cases hz:z=0
 case neg =>
  have hzb:(z != 0)=true:=by simpa using hz
  clear hz;go_wp2_with fail;refine (qO.out _).mono ?_;rintro e w9 ⟨rfl,OM⟩;have Pq:=AA (bT Ls.out OM);clear OM;go_wp2;go_ret;exact ⟨rfl,Pq.out⟩
 subst hz;have hq:=nZ.out;rw [AZ HZ.out] at hq;have HZq:=AA (show MG q'=0 by rw [hq,avg];exact HZ.out);have HQq:=AA (show H6 q'=q' by rw [hq,avf]);have HRq:=AA (show Ib q'=0 by rw [hq];exact avk HZ.out);have rC:Mod q':=by rw [hq];exact ku.out.2 HZ.out
 have HM:=AA rC;have X5:=UO.out;clear hq rC
 try clear CJ CO CS F8
 obtain ⟨CJ,CO,CS,F8,-,-,-⟩:=X5.Az;go_wp2_with fail;refine (HLg.out _ q' w8 HM.out HR8.out).mono ?_;rintro e w9 ⟨v9,r,rfl,OM,hp9,hr9⟩;rw [HZq.out,AZ rfl,HQq.out] at hr9;subst hr9;obtain ⟨A9,c9,D9,d9,E9,e9,rfl⟩:=hp9.form;simp only [HN1.out,OE.out,HN3.out,HZq.out] at hp9 ⊢;have ZI:=AA hp9;have Pq:=AA (bT Ls.out OM);have MR:=AA (UO.out.keep OM);have HR9:=AA (HR8.out.mono OM);clear OM hp9 X5 CJ CO CS F8 UO HR8 Ls;go_upto_region 10 with fail;obtain ⟨g9,Je⟩:∃ g,w9.heap.size=g:=⟨_,rfl⟩;obtain ⟨W9,hW⟩:∃ W:World,W=w9.alloc (.cells #[.slice A9 n1 c9,.slice D9 n2 d9,.slice E9 n3 e9] 26):=⟨_,rfl⟩;have hb:AU w9 W9:=by rw [hW];exact bA (bR w9) _
 have pW:=AA (show AO W9 g9 26 #[.slice A9 n1 c9,.slice D9 n2 d9,.slice E9 n3 e9] by rw [hW,<- Je];exact AO.made rfl _ _);have Kv:=AA (ZI.out.mono hb);have wQ:=AA (MR.out.keep hb);have GN:=AA (HR9.out.mono hb);have XB:=AA (bT Pq.out hb);rw [Je,<- hW];clear hb hW ZI Pq Je MR HR9;go_wp2_with fail;refine (qO.out _).mono ?_;rintro e w10 ⟨rfl,Ry⟩;have Nc:=AA (pW.out.keep Ry);have afj:=AA (wQ.out.keep Ry);have Py:=AA (Kv.out.mono Ry);have afk:=AA (GN.out.mono Ry);have ZP:=AA (bT XB.out Ry);clear Ry pW wQ Kv GN XB;have X5:=afj.out
 try clear CJ CO CS F8
 obtain ⟨CJ,CO,CS,F8,-,-,-⟩:=X5.Az;go_wp2_with fail;refine (GV.out _ _ _ afk.out).mono ?_;rintro e Xj ⟨rfl,Nh⟩;rw [HRq.out];have U2:=AA (Nc.out.keep Nh);have ayF:=AA (afj.out.keep Nh);have afP:=AA (Py.out.mono Nh);have ayG:=AA (afk.out.mono Nh);have abE:=AA (bT ZP.out Nh);clear Nh X5 CJ CO CS F8 Nc afj Py afk ZP;have X5:=ayF.out;have X9:=U2.out;have ZU:=AA (amV _ _ _ Xj afP.out ayG.out)
 try clear CJ CO CS F8
 obtain ⟨CJ,CO,CS,F8,-,-,-⟩:=X5.Az;obtain ⟨Gv,Gw,JG,aBN,-,-,-⟩:=X9.Az;go_wp2_with fail;refine ZU.out.mono ?_;rintro e w12 ⟨rfl,amX⟩;have lJ:=AA (bT abE.out amX);clear amX;go_wp2;go_ret;exact ⟨rfl,lJ.out⟩
