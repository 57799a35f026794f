import Derived.Deep.CutBlock
import Derived.Test.YtialfdomhoojiaaGreatJ34
import Derived.Test.YtialfdomhoojiaaGreatJ35
import Derived.Test.YtialfdomhoojiaaGreatJ37
import Derived.Test.YtialfdomhoojiaaGreatLawRev
set_option linter.unusedSimpArgs false
set_option linter.unusedVariables false
namespace Go.Proofs.YtialfdomhoojiaaGreat
open Go.RowKit
theorem aj.RY {w:World} {g:Nat} {t:TypeId} {cs:Array Value} (h:aj w g t cs) {b:Nat} (hne:g≠b) (o:Nat) (u0 u1 u2 u3 u4 u5:Value) :
  aj ((((((w.setCell ⟨b,o,none⟩ u0).setCell ⟨b,o+1,none⟩ u1).setCell ⟨b,o+2,none⟩ u2).setCell ⟨b,o+3,none⟩ u3).setCell ⟨b,o+4,none⟩ u4).setCell ⟨b,o+5,none⟩ u5) g t cs :=
 (((((h.far (p:=⟨b,o,none⟩) hne u0).far (p:=⟨b,o+1,none⟩) hne u1).far (p:=⟨b,o+2,none⟩) hne u2).far (p:=⟨b,o+3,none⟩) hne u3).far (p:=⟨b,o+4,none⟩) hne u4).far (p:=⟨b,o+5,none⟩) hne u5
theorem Own.RY {α:Type} {w:World} {base:Nat} {e:TypeId} {size:Nat} {f:α->List Value} {v:Value} {l:List α} (h:Own w base e size f v l) {b:Nat} (hne:v.ownBlock≠some b) (o:Nat) (u0 u1 u2 u3 u4 u5:Value) :
  Own ((((((w.setCell ⟨b,o,none⟩ u0).setCell ⟨b,o+1,none⟩ u1).setCell ⟨b,o+2,none⟩ u2).setCell ⟨b,o+3,none⟩ u3).setCell ⟨b,o+4,none⟩ u4).setCell ⟨b,o+5,none⟩ u5) base e size f v l :=
 (((((h.far (p:=⟨b,o,none⟩) hne u0).far (p:=⟨b,o+1,none⟩) hne u1).far (p:=⟨b,o+2,none⟩) hne u2).far (p:=⟨b,o+3,none⟩) hne u3).far (p:=⟨b,o+4,none⟩) hne u4).far (p:=⟨b,o+5,none⟩) hne u5
set_option maxRecDepth 100000 in
set_option maxHeartbeats 8000000 in
theorem at7 (v:Value) (p:Pl) (a:Int) (at_:Pt) (w:World) (h:dS w v p) (hs:FB p) (hu:(Lit.int .u8 a).wf=true) :
  Calls Tryz.prog 9 #[v,.int .u8 a,bg at_] w fun e w'=>e=.returned (.bool true)/\Below w.heap.size w w':=by
 have hab:=atZ hu;have RU:=Lib.hid (fun W (hW:Below w.heap.size w W)=>aje v p W (h.mono hW) (fun a ha=>Nat.le_trans (hs a ha) (by omega)));have kH:=Lib.hid (fun W (hW:Below w.heap.size w W)=>V9 v p W (h.mono hW));have HP:=Lib.hid h;have zO:=Lib.hid ai1;have hint:=h;obtain ⟨_,_,_,al,rfl,hpa,hN,⟨⟨Aa,ca,rfl,ha1,ha2,jy⟩,hV⟩,hF⟩:=h;obtain ⟨bl,rfl⟩:=hV.sv;have HN:=Lib.hid hN;have HF:=Lib.hid hF;obtain ⟨An,cn,rfl,hn1,hn2,J4⟩:=hN;obtain ⟨Af,cf,rfl,hf1,hf2,Hy⟩:=hF;have hpl:p.ah.length=bl.length:=by rw [hpa,List.length_map,List.length_map]
 rw [List.length_map] at ha1;rw [UJ] at jy;have hres:p.ah=bl.map (·.1):=by rw [hpa,List.map_map];rfl
 have QE:Hid (∀ k (hk:k<bl.length),gW w (.slice bl[k].2.a bl[k].2.n bl[k].2.c) bl[k].1.via):=Lib.hid fun k hk=>by
  have:=hV k (by simpa using hk)
  simpa [Jm] using this
 have MX:=Lib.hid hres;have lK:Hid (Sl w (.slice Aa bl.length ca) bl.length (bl.flatMap lI)):=Lib.hid ⟨_,_,rfl,ha1,ha2,jy⟩;have DK:=Lib.hid Hy;have Hpl:=Lib.hid hpl;rw [List.length_map] at *;unfold maxLen at ha2 hn2 hf2;generalize p.nodes.length=nn at *;generalize hnf:p.faces.length=nf at *;have Hu:=Lib.hid hnf;clear hV hres jy J4 hpa hpl hu hint Hy hnf;have xk:=Lib.hid (fun u q W (hq:dS W u q)=>WC u q at_ W hq);unfold bg at xk ⊢;go_enter Tryz.func9,Tryz.ntmps9;go_wp2_with fail;refine (RU.out _ (bA (bA (bR w) _) _)).mono ?_;rintro e w1 ⟨lt,rfl,hlt,hb1⟩;have HB1:=Lib.hid (bT (bA (bA (bR w) _) _) hb1);have X3:aj w1 (w.heap.size+1) 39 #[.int .i64 at_.x,.int .i64 at_.y]:=(aj.made (by simp) _ _).keep hb1;have iR:=Lib.hid X3;have X2:aj w1 w.heap.size 26 #[.slice An nn cn,.slice Aa bl.length ca,.slice Af nf cf]:=((aj.made rfl _ _).alloc _).keep hb1;clear hb1 RU X3
 cases lt
 case false =>
  go_wp2_with fail;refine (zO.out _).mono ?_;rintro e w2 ⟨rfl,hb2⟩;go_wp2_with fail;go_ret;exact ⟨rfl,bT HB1.out hb2⟩
 have Fb:=hlt rfl;have hal:bl.length<=30:=by have:=Fb.ah;have:=Hpl.out;omega
 have hfl:nf<=30:=by have:=Fb.faces;have:=Hu.out;omega
 have Dl:=Lib.hid (fun k (hk:k<bl.length)=>show bl[k].1.via.length<=180 from Fb.nR _ (by rw [MX.out];exact List.mem_map_of_mem (List.getElem_mem hk)));clear hlt Fb;obtain ⟨cu,cO,dH,dZ,-,-,-⟩:=X2.aY;go_wp2_with fail;refine (kH.out _ HB1.out).mono ?_;rintro e w2 ⟨rfl,hb2⟩;have HB2:=Lib.hid (bT HB1.out hb2);replace X2:=X2.keep hb2;have ajx:=Lib.hid (iR.out.keep hb2);clear hb2 iR kH HB1 cu cO dH dZ;by_cases hz:iV p=0
 case neg =>
  generalize iV p=q at *;have hzb:(q != 0)=true:=by simpa using hz
  go_wp2_with fail;refine (zO.out _).mono ?_;rintro e w3 ⟨rfl,hb3⟩;go_wp2_with fail;go_ret;exact ⟨rfl,bT HB2.out hb3⟩
 obtain ⟨hv,hfc⟩:=Nw hz;have HV:=Lib.hid hv;have yF:=Lib.hid (JD.1 hfc);rw [hz];clear hz hv hfc;have bU:=Lib.hid X2
 try clear cu
 try clear cO
 try clear dH
 try clear dZ
 obtain ⟨cu,cO,dH,dZ,-,-,-⟩:=X2.aY;by_cases hz:bl.length=0
 ·have hz':((bl.length:Int) == 0)=true:=beq_iff_eq.2 (by omega);have hz2:(bl.length:Int)=0:=by omega
  clear hz;go_wp2_with fail;refine (zO.out _).mono ?_;rintro e w3 ⟨rfl,hb3⟩;go_wp2_with fail;go_ret;exact ⟨rfl,bT HB2.out hb3⟩
 have hz':((bl.length:Int) == 0)=false:=beq_eq_false_iff_ne.2 (by omega);have hz2:¬ (bl.length:Int)=0:=by omega
 obtain ⟨i,hi,hwr,hmod⟩:=at1 a bl.length hab (by omega);have Hwr:=Lib.hid hwr;have aua:=Lib.hid hmod;clear hwr hmod hz;go_upto_region 4 with fail;obtain ⟨W3,hW⟩:∃ W:World,W=w2.alloc (.cells #[.slice An nn cn,.slice Aa bl.length ca,.slice Af nf cf] 26):=⟨_,rfl⟩;have X9:aj W3 w2.heap.size 26 #[.slice An nn cn,.slice Aa bl.length ca,.slice Af nf cf]:=by rw [hW];exact aj.made rfl _ _
 have hA:Below w2.heap.size w2 W3:=by rw [hW];exact bA (bR w2) _
 replace X2:=X2.keep hA;have aub:=Lib.hid X2;have HB3:=Lib.hid (bT HB2.out hA);have auc:=Lib.hid (ajx.out.keep hA);have aud:w.heap.size<w2.heap.size:=bU.out.lt;have aue:w.heap.size+1<w2.heap.size:=ajx.out.lt;obtain ⟨g9,h9⟩:∃ g,w2.heap.size=g:=⟨_,rfl⟩;rw [<- hW];rw [h9] at X9 aud aue ⊢;have l9:=Lib.hid X9;have Ot:=X9.lt;clear hW hA h9 cu cO dH dZ bU
 try clear cu
 try clear cO
 try clear dH
 try clear dZ
 obtain ⟨cu,cO,dH,dZ,-,-,-⟩:=X2.aY;obtain ⟨gy,gG,iP,uT,XP,XU,XV⟩:=X9.aY;go_upto_region 5 with
  (at_builtin
   refine lq _ rfl (.tmp 38) (.tmp 40) _ rfl (base:=W3.heap.size) (l:=([] : List (Ar×SV))) Sv Ew UH rfl (Own.aiZ (l:=([] : List (Ar×SV))) (aj.made rfl _ _) (Nat.le_refl _) rfl rfl rfl (fQ (by omega))) rfl (l2:=bl) (lK.out.mono (bA HB3.out _)) (by simp only [List.length_nil];omega) (by simp only [List.length_nil];omega) (by simp) ?_;intro v5 w5 iY hg5 rU;replace iY:Own w5 W3.heap.size 50 6 lI v5 bl:=by simpa using iY
   obtain ⟨A5,c5,rfl,-⟩:=Own.qM iY;have uf:=Lib.hid iY;have dM:=Lib.hid (show Below W3.heap.size W3 w5 from bG (bA (bR W3) _) hg5 (fun g hg=>by have h:some W3.heap.size=some g:=hg;have:=Option.some.inj h;omega));have X9n:=l9.out.keep dM.out;have X2n:=aub.out.keep dM.out;have ajy:=Lib.hid X9n;have ajz:=Lib.hid X2n;clear iY hg5 rU X9 gy gG iP uT XP XU XV X2 cu cO dH dZ;obtain ⟨auf,aug,auh,aui⟩:=X9n.aY)
 obtain ⟨W6,hW⟩:∃ W:World,W=w5.setCell ⟨g9,1,none⟩ (.slice A5 bl.length c5):=⟨_,rfl⟩;have avN:W3.heap.size<=w5.heap.size:=dM.out.size;have X9:aj W6 g9 26 #[.slice An nn cn,.slice A5 bl.length c5,.slice Af nf cf]:=by
  rw [hW];have h:=aj.fC ajy.out 1 (.slice A5 bl.length c5);simpa using h
 have X2:aj W6 w.heap.size 26 #[.slice An nn cn,.slice Aa bl.length ca,.slice Af nf cf]:=by rw [hW];exact ajz.out.far (by show w.heap.size≠g9;omega) _
 have Bj:=Lib.hid (show Own W6 W3.heap.size 50 6 lI (.slice A5 bl.length c5) bl by rw [hW];exact uf.out.far (p:=⟨g9,1,none⟩) (fun e=>by have:=(uf.out.lt _ e).1;simp only [] at this;omega) _);have gZ:=Lib.hid (show Below w.heap.size w W6 by rw [hW];exact bS (bT HB3.out dM.out) (by show w.heap.size<=g9;omega) _);have X5:aj W6 (w.heap.size+1) 39 #[.int .i64 at_.x,.int .i64 at_.y]:=by rw [hW];exact (auc.out.keep dM.out).far (by show w.heap.size+1≠g9;omega) _
 rw [<- hW];clear hW ajy ajz uf X9n auf aug auh aui X2n;obtain ⟨g5,c6,xM,hg5,hl5,-⟩:=Own.form Bj.out (by omega);injection xM with xM q2 q3;subst xM;clear q2 q3;have hip:i<p.ah.length:=by rw [Hpl.out];exact hi
 have Kq:=Lib.hid (show p.ah[i]=bl[i].1 by simp only [MX.out,List.getElem_map]);obtain ⟨A1,c1',he,-,-,RZ⟩:=lK.out.mono gZ.out;injection he with e1 e2 e3;subst e1;clear e2 e3;obtain ⟨b,o,iJ,hlb,d0,d1,d2,d3,d4,d5⟩:=RZ.as_ hi;subst iJ;obtain ⟨sa,sc,hsv,auj,avO,hsR⟩:=QE.out i hi;injection hsv with e1 e2 e3;have auk:bl[i].1.via.length<=180:=by have:=Dl.out i hi;omega
 have HSv:=Lib.hid (⟨e1,e2,e3⟩:bl[i].2.a=sa/\bl[i].2.n=bl[i].1.via.length/\bl[i].2.c=sc);have HsR:=Lib.hid hsR;rw [e1,e2,e3] at d3;clear e1 e2 e3 hsR RZ;have l9:=Lib.hid X9;have bU:=Lib.hid X2;have bV:=Lib.hid X5;have hwr:=Hwr.out;have hmod:=aua.out;have q0:0<=(i:Int):=by omega
 have q1:(i:Int)<bl.length:=by omega
 obtain ⟨x,hx⟩:∃ x,bl[i].1=x:=⟨_,rfl⟩;rw [hx] at d0 d1 d2 d3 d4 d5 auj auk HSv HsR Kq;have HX:=Lib.hid hx;clear hx;generalize hVV:x.via=V at *;have HVV:=Lib.hid hVV;clear hVV;have hwl:IntKind.i64.wrap ((V.length:Int)-1)=(V.length:Int)-1:=IntWalk.i64_in _ (by omega)
 try clear cu
 try clear cO
 try clear dH
 try clear dZ
 obtain ⟨cu,cO,dH,dZ,-,-,-⟩:=X2.aY;go_upto_region 9 with fail;obtain ⟨g6,qQ⟩:∃ g6,g6=W6.heap.size:=⟨_,rfl⟩;rw [<- qQ];obtain ⟨W7,CQ⟩:∃ W7:World,W7=W6.alloc (.cells #[.int .i64 x.id,.int .i64 x.dst,.int .i64 x.fr,.slice none 0 0,.int .i64 x.right,.int .i64 x.left] 50):=⟨_,rfl⟩;have yV:Below W6.heap.size W6 W7:=by rw [CQ];exact bA (bR W6) _
 have hs7:W7.heap.size=g6+1:=by rw [CQ,qQ];simp
 have X6:aj W7 g6 50 #[.int .i64 x.id,.int .i64 x.dst,.int .i64 x.fr,.slice none 0 0,.int .i64 x.right,.int .i64 x.left]:=by rw [CQ,qQ];exact aj.made rfl _ _
 have HO7:=Lib.hid (Bj.out.keep yV);have tJ:=Lib.hid (bT gZ.out yV);have avP:g5<g6:=by omega
 have aul:g9<g6:=by have:=l9.out.lt;omega
 have hbg:b<g6:=by omega
 rw [<- CQ];have jI:=Lib.hid X6;have ajA:=Lib.hid (l9.out.keep yV);have Ob:=Lib.hid (bU.out.keep yV);have ajB:=Lib.hid (bV.out.keep yV);have d3':=gU yV d3;have HS7:=Lib.hid hs7;have HD3:=Lib.hid d3';have hsv:∀ m (hm:m<V.length),∃ bv ov,sa=some ⟨bv,ov,none⟩/\bv<g6/\W7.cell? ⟨bv,ov+m*2,none⟩=some (.int .i64 V[m].x)/\W7.cell? ⟨bv,ov+m*2+1,none⟩=some (.int .i64 V[m].y):=fun m hm=>by
  obtain ⟨bv,ov,h1,h2,h3,h4⟩:=HsR.out.pt hm;exact ⟨bv,ov,h1,by have:=gZ.out.size;omega,gU tJ.out h3,gU tJ.out h4⟩
 have HSV:=Lib.hid hsv;clear X6 CQ yV qQ d0 d1 d2 d3 d4 d5 hsv HsR l9 bU bV Bj gZ X2 cu cO dH dZ X9 X5 hwr hmod;have X2:=Ob.out;have XH:b<W7.heap.size:=by omega
 try clear cu
 try clear cO
 try clear dH
 try clear dZ
 obtain ⟨cu,cO,dH,dZ,-,-,-⟩:=X2.aY;go_upto_block 0 with fail;clear hwl X2 cu cO dH dZ d3' hs7 XH;go_wp2_with fail;go_loopw [10] (fun u wr=>∃ (k:Nat) (A:Option Addr) (c:Nat),k<=V.length/\u=.int .i64 ((k:Int)-1)/\aj wr g6 50 #[.int .i64 x.id,.int .i64 x.dst,.int .i64 x.fr,.slice A (V.length-k) c,.int .i64 x.right,.int .i64 x.left]/\Own wr (g6+1) 39 2 jm (.slice A (V.length-k) c) (V.drop k).reverse/\Below g6 W7 wr) (fun u _=>(intOf u+1).toNat)
 case atStart => exact ⟨V.length,none,0,Nat.le_refl _,rfl,by rw [Nat.sub_self];exact jI.out,by rw [Nat.sub_self,List.drop_length];exact Own.nil _ _ _ _ _,Below.refl _ _⟩
 case round =>
  obtain ⟨k,A,c,hk,rfl,hx6,L9,hb⟩:=hrel;obtain ⟨wo,rfl⟩:∃ wo:World,wo=wr:=⟨_,rfl⟩;have Hb:=Lib.hid hb;have hsz:=hb.size;have hs7:=HS7.out;have Si:=Lib.hid hx6;have Fg:=Lib.hid L9;have iQ:=Lib.hid (show Below w.heap.size w wo from tJ.out.trans (hb.mono (by omega)));clear hb hx6 L9;rcases k with _ | m
  case zero =>
   have ajC:w.heap.size+1<g6:=by omega
   have EC:=Lib.hid (show Own wo W3.heap.size 50 6 lI (.slice (some ⟨g5,0,none⟩) bl.length c5) bl from HO7.out.atY Hb.out (fun g hg=>by have h:=Option.some.inj hg;change g5=g at h;omega));obtain ⟨gq,cq,hvq,-,-,-,-,cur,hcur,-⟩:=Own.form EC.out (by omega);injection hvq with e1 e2 e3;injection e1 with e1;injection e1 with e1 _ _;subst e1;have hfz:∀ j,wo.frozen? ⟨g5,j,none⟩=false:=fun j=>aj.frozen hcur j;have hf0:=hfz (i*6);have hf1:=hfz (i*6+1);have hf2:=hfz (i*6+2);have hf3:=hfz (i*6+3);have hf4:=hfz (i*6+4);have hf5:=hfz (i*6+5);clear e2 e3 hfz hcur;obtain ⟨A5',C5',he5,-,-,RZ⟩:=EC.out.sl;injection he5 with e1 e2 e3;subst e1;clear e2 e3;obtain ⟨b',o',iJ,Cb,k0,k1,k2,k3,k4,k5⟩:=RZ.as_ hi;simp only [Option.some.injEq,Addr.mk.injEq,and_true] at iJ;obtain ⟨rfl,rfl⟩:=iJ;simp only [Nat.zero_add] at k0 k1 k2 k3 k4 k5;clear RZ;have X6:=Si.out;rw [Nat.sub_zero] at X6;have X9:=ajA.out.below Hb.out aul;have ajD:=Lib.hid X9;have ajE:=Lib.hid (Ob.out.below Hb.out (by omega));have ajF:=Lib.hid (ajB.out.below Hb.out ajC);have n5:¬ g6=g5:=by omega
   have n6:¬ g5=g6:=by omega
   have n7:¬ g9=g5:=by omega
   have n8:¬ w.heap.size=g5:=by omega
   have n9:¬ w.heap.size+1=g5:=by omega
   obtain ⟨jd,jf,jg,pW,qX,CB,CG,-,-,-,-,-,-⟩:=X6.kZ
   try clear gy
   try clear gG
   try clear iP
   try clear uT
   try clear XP
   try clear XU
   try clear XV
   obtain ⟨gy,gG,iP,uT,-,-,-⟩:=X9.aY;go_upto_region 14 with fail;obtain ⟨W8,hW⟩:∃ W:World,W=(((((wo.setCell ⟨g5,i*6,none⟩ (.int .i64 x.id)).setCell ⟨g5,i*6+1,none⟩ (.int .i64 x.dst)).setCell ⟨g5,i*6+2,none⟩ (.int .i64 x.fr)).setCell ⟨g5,i*6+3,none⟩ (.slice A V.length c)).setCell ⟨g5,i*6+4,none⟩ (.int .i64 x.right)).setCell ⟨g5,i*6+5,none⟩ (.int .i64 x.left):=⟨_,rfl⟩;have yG:=Lib.hid (show Below w.heap.size w W8 by
    rw [hW];exact bS (bS (bS (bS (bS (bS iQ.out (p:=⟨g5,_,none⟩) (by simp;omega) _) (p:=⟨g5,_,none⟩) (by simp;omega) _) (p:=⟨g5,_,none⟩) (by simp;omega) _) (p:=⟨g5,_,none⟩) (by simp;omega) _) (p:=⟨g5,_,none⟩) (by simp;omega) _) (p:=⟨g5,_,none⟩) (by simp;omega) _)
   have ajG:=Lib.hid (show aj W8 g9 26 #[.slice An nn cn,.slice (some ⟨g5,0,none⟩) bl.length c5,.slice Af nf cf] by rw [hW];exact ajD.out.RY n7 _ _ _ _ _ _ _);have acD:=Lib.hid (show aj W8 w.heap.size 26 #[.slice An nn cn,.slice (some ⟨b,o,none⟩) bl.length ca,.slice Af nf cf] by rw [hW];exact ajE.out.RY n8 _ _ _ _ _ _ _);have acE:=Lib.hid (show aj W8 (w.heap.size+1) 39 #[.int .i64 at_.x,.int .i64 at_.y] by rw [hW];exact ajF.out.RY n9 _ _ _ _ _ _ _);have HQ:=Lib.hid (show dS W8 (.agg #[.slice An nn cn,.slice (some ⟨g5,0,none⟩) bl.length c5,.slice Af nf cf]) (jL p i hip) by
    have ho:=Own.anW (i:=i) EC.out hi (iL x,⟨A,V.length,c⟩);have e0:(jL p i hip).ah=(bl.map (·.1)).set i (iL x):=by
     show p.ah.set i (iL p.ah[i])=_
     rw [Kq.out,MX.out]
    have ep:p.faces.length=nf:=Hu.out;have hsl:Sl W8 (.slice (some ⟨g5,0,none⟩) bl.length c5) (bl.set i (iL x,⟨A,V.length,c⟩)).length ((bl.set i (iL x,⟨A,V.length,c⟩)).flatMap lI):=by rw [hW];exact Own.sl ho
    refine dS.blocks (al:=(bl.set i (iL x,⟨A,V.length,c⟩)).map Jm) ?_ (HN.out.mono yG.out) ?_ ?_ (HF.out.mono yG.out)
    ·rw [e0,List.map_map,List.map_set];rfl
    ·rw [UJ,List.length_map];exact hsl
    ·intro k hk;rw [List.length_map,List.length_set] at hk;simp only [List.getElem_map,List.getElem_set];by_cases e:i=k
     ·rw [if_pos e];have h:Own W8 (g6+1) 39 2 jm (.slice A (V.length-0) c) (V.drop 0).reverse:=by
       rw [hW];exact Fg.out.RY (fun e=>by have:=(Fg.out.lt g5 e).1;omega) _ _ _ _ _ _ _
      have hv:=Own.sl h;rw [List.drop_zero] at hv
      show gW _ (.slice A V.length c) (iL x).via
      unfold iL gW;rw [HVV.out];rw [Nat.sub_zero] at hv;exact hv
     ·rw [if_neg e];exact (QE.out k hk).mono yG.out)
   rw [<- hW];clear hW X6 jd jf jg pW qX CB CG X9 gy gG iP uT k0 k1 k2 k3 k4 k5 hf0 hf1 hf2 hf3 hf4 hf5 Cb ajD ajE ajF ajA Ob ajB Si Fg EC iQ;have BF:=Lib.hid (Twin.of HV.out hip);have MG:=Lib.hid (fun W (hW:Below W8.heap.size W8 W)=>show Calls Tryz.prog 24 #[.agg #[.slice An nn cn,.slice (some ⟨g5,0,none⟩) bl.length c5,.slice Af nf cf],.agg #[.int .i64 at_.x,.int .i64 at_.y]] W fun e w'=>e=.returned (J3 (ou p at_))/\Below W.heap.size W w' from by
    have h:=WC _ _ at_ W (HQ.out.mono hW);rw [BF.out.ou yF.out] at h;exact h)
   have XW:=Lib.hid (fun W (hW:Below w.heap.size w W)=>xk.out _ p W (HP.out.mono hW));have HCq:=Lib.hid (fun W (hW:Below W8.heap.size W8 W)=>show Calls Tryz.prog 19 #[.agg #[.slice An nn cn,.slice (some ⟨g5,0,none⟩) bl.length c5,.slice Af nf cf]] W fun e w'=>e=.returned (.int .i64 0)/\Below W.heap.size W w' from by
    have h:=V9 _ _ W (HQ.out.mono hW);rw [(BF.out.check yF.out).2] at h;exact h)
   have WX:=Lib.hid (fun fc W (hW:Below w.heap.size w W)=>Xe _ p fc W (HP.out.mono hW) (BF.out.check yF.out).1);have HMq:=Lib.hid (fun fc W (hW:Below W8.heap.size W8 W)=>show Calls Tryz.prog 30 #[.agg #[.slice An nn cn,.slice (some ⟨g5,0,none⟩) bl.length c5,.slice Af nf cf],.int .i64 fc] W fun e w'=>e=.returned (Kr (wO p fc))/\Below W.heap.size W w' from by
    have h:=Xe _ _ fc W (HQ.out.mono hW) (BF.out.check yF.out).2;rw [BF.out.mid yF.out] at h;exact h)
   obtain ⟨T,hT⟩:∃ T,ou p at_=T:=⟨_,rfl⟩;rw [hT] at MG XW;obtain ⟨T1,T2,T3⟩:=T;unfold J3 at MG XW;have X2:=acD.out;have X5:=acE.out;clear hT HQ BF xk QE HN HF Kq
   try clear cu
   try clear cO
   try clear dH
   try clear dZ
   obtain ⟨cu,cO,dH,dZ,-,-,-⟩:=X2.aY;obtain ⟨dw,dB,dL,-,-⟩:=X5.bH;go_upto_region 14 with fail;go_wp2_with fail;refine (XW.out _ yG.out).mono ?_;rintro e w9 ⟨rfl,sK⟩;have N7:=Lib.hid sK;have ajH:=Lib.hid (acE.out.keep sK);have J7:=Lib.hid (ajG.out.keep sK);have ajI:=Lib.hid (acD.out.keep sK);clear sK X2 cu cO dH dZ X5 dw dB dL acD acE ajG XW;have X5:=ajH.out;have X9:=J7.out
   try clear dw
   try clear dB
   try clear dL
   obtain ⟨dw,dB,dL,-,-⟩:=X5.bH
   try clear gy
   try clear gG
   try clear iP
   try clear uT
   try clear XP
   try clear XU
   try clear XV
   obtain ⟨gy,gG,iP,uT,-,-,-⟩:=X9.aY;go_upto_region 15 with fail;go_wp2_with fail;refine (MG.out _ N7.out).mono ?_;rintro e w10 ⟨rfl,yX⟩;have N8:=Lib.hid (bT N7.out yX);have acF:=Lib.hid (J7.out.keep yX);have ajJ:=Lib.hid (ajI.out.keep yX);clear yX X5 dw dB dL X9 gy gG iP uT ajH J7 ajI MG N7;have X9:=acF.out
   try clear gy
   try clear gG
   try clear iP
   try clear uT
   try clear XP
   try clear XU
   try clear XV
   obtain ⟨gy,gG,iP,uT,-,-,-⟩:=X9.aY;go_upto_region 16 with fail;go_wp2_with fail;refine (HCq.out _ N8.out).mono ?_;rintro e yY ⟨rfl,rE⟩;have Xo:=Lib.hid (bT N8.out rE);have aum:=Lib.hid (acF.out.keep rE);have ajK:=Lib.hid (ajJ.out.keep rE);clear rE X9 gy gG iP uT acF ajJ HCq N8;have X2:=ajK.out;have hne1:(T1 != T1)=false:=by simp
   have hne2:(T2 != T2)=false:=by simp
   have aun:(T3 != T3)=false:=by simp
   try clear cu
   try clear cO
   try clear dH
   try clear dZ
   obtain ⟨cu,cO,dH,dZ,-,-,-⟩:=X2.aY;go_upto_block 2 with fail;clear hne1 hne2 aun X2 cu cO dH dZ;go_wp2_with fail;go_loopw [17] (fun u wr=>∃ k:Nat,k<=nf/\u=.int .i64 k/\Below yY.heap.size yY wr) (fun u _=>nf-(intOf u).toNat)
   case atStart => exact ⟨0,Nat.zero_le _,rfl,bR yY⟩
   case round =>
    obtain ⟨kf,hkf,rfl,hbk⟩:=hrel;obtain ⟨wk,rfl⟩:∃ wk:World,wk=wr:=⟨_,rfl⟩;have Hbk:=Lib.hid hbk;have X2:=ajK.out.keep hbk;have auo:=Lib.hid X2;have aup:=Lib.hid (aum.out.keep hbk);have zM:=Lib.hid (bT Xo.out hbk);clear hbk;by_cases hkl:kf<nf
    ·have hkp:kf<p.faces.length:=by rw [Hu.out];exact hkl
     obtain ⟨bf,of,rfl,hbf,hcf⟩:=Row.at_ (f:=eU) (n:=1) (fun _=>rfl) DK.out hkp (by omega);have cf0:w.cell? ⟨bf,of+kf,none⟩=some (.int .i64 p.faces[kf]):=by simpa using hcf 0 _ rfl
     have cf1:=gU (bT yG.out zM.out) cf0;have auq:bf<wk.heap.size:=by have:=(bT yG.out zM.out).size;omega
     generalize p.faces[kf]=f at *;obtain ⟨m,bm,hM⟩:∃ (m:Pt) (b:Bool),Kr (wO p f)=.tuple #[.agg #[.int .i64 m.x,.int .i64 m.y],.bool b]:=by
      cases wO p f with
      | none=>exact ⟨⟨0,0⟩,false,rfl⟩
      | some v=>exact ⟨v,true,rfl⟩
     have mZ:=Lib.hid (fun W (hW:Below wk.heap.size wk W)=>WX.out f W (bT (bT yG.out zM.out) hW));have pX:=Lib.hid (fun W (hW:Below wk.heap.size wk W)=>HMq.out f W (bT zM.out hW));rw [hM] at mZ pX;have Cf1:=Lib.hid cf1;have q4:0<=(kf:Int):=by omega
     have q5:(kf:Int)<nf:=by omega
     clear hM hcf cf0 hkp
     try clear cu
     try clear cO
     try clear dH
     try clear dZ
     obtain ⟨cu,cO,dH,dZ,-,-,-⟩:=X2.aY;go_upto_region 21 with fail;go_cut [18,19] (fun u y wx=>∃ g,u=.pointer (some ⟨g,0,none⟩)/\aj wx g 39 #[.int .i64 m.x,.int .i64 m.y]/\y=.bool bm/\Below wk.heap.size wk wx)
     case first =>
      refine cZ (iq (wk.heap.size) wk) (.run 6 0 0 (.two 6 127 (.run 3 7 127 (.call 10 2047 (.call 11 4095 (.take 12 8191 (.done))))) 10 1087 (.call 6 1151 (.run 3 7 1151 (.call 11 4095 (.take 12 8191 (.done))))))) (by kernel_rfl) (Below.drew (Below.refl _ _)) (by kernel_rfl) (by kernel_rfl) (Nat.le_of_ble_eq_true (by kernel_rfl)) ?_;intro dn QR au aC hS
      iterate 6
       apply jV;exact au;exact rfl;exact hS;exact rfl
       · intro _ hqc;go_simp;try rfl
       try simp only [pu]
      refine xG (i:=6) (j:=10) (aH au rfl) (aH au rfl) (fun K hK=>?_) (fun K hK=>?_)
      ·have aA:=Lib.hid hS;clear hS;refine aN (aV rfl) ?_;go_simp;refine (mZ.out _ aA.out).mono ?_;rintro e bC ⟨rfl,bM⟩;have hS:iq (wk.heap.size) wk bC:=bT (w:=wk) aA.out bM;clear aA
       try replace XQ:=XQ.keep bM
       refine hK.out _ _ hS (fun _=>?_);clear hK K
       try simp only [pu]
       iterate 3
        apply jV;exact au;exact rfl;exact hS;exact rfl
        · intro _ hqc;go_simp;try rfl
        try simp only [pu]
       refine aW (i:=10) (aH au rfl) (fun K hK=>?_);have aA:=Lib.hid hS;clear hS;refine aN (aV rfl) ?_;go_simp;have Xx:Below (wk.heap.size) wk (bC):=aA.out;have Fa:wk.heap.size<=(bC).heap.size:=Nat.le_trans (by omega) (show Below (wk.heap.size) wk (bC) from aA.out).size;refine hK.out _ _ (kQ (by omega) aA.out _) (fun hS=>?_);clear hK K aA
       try replace XQ:=XQ.alloc (.cells #[.int .i64 0,.int .i64 0] 39)
       have XQ:=aj.new (bC) 39 #[.int .i64 0,.int .i64 0]
       try simp only [World.size_drew,World.size_alloc] at XQ Fa
       try simp only [pu]
       refine aW (i:=11) (aH au rfl) (fun K hK=>?_);have aA:=Lib.hid hS;clear hS;refine aN (aV rfl) ?_;obtain ⟨Xy,Xz,XB,XD,XE⟩:=XQ.bH;go_simp;refine hK.out _ _ (by unfold iq;have h:Below _ _ _:=aA.out;repeat (first | with_reducible assumption | with_reducible exact Below.refl _ _ | with_reducible refine qJ ?_ (by first | omega | (simp;omega)) _ | with_reducible refine Below.drew ?_ | with_reducible refine kQ (by omega) ?_ _ | exact h)) ?_;intro hS;clear hK K aA
       try simp only [pu]
       apply jV;exact au;exact rfl;exact hS;exact rfl
       · intro _ hqc;go_simp;try rfl
       try simp only [pu]
       refine bQ ?_;refine aC.down _ _ ?_;have hB:Below (wk.heap.size) wk _:=hS;clear hS aC au;go_wp2_with fail;go_meet
       case rel => exact ⟨_,rfl,(by first | with_reducible exact aj.rW XQ | with_reducible exact aj.made rfl _ _ | with_reducible exact aj.drew (aj.made rfl _ _)),rfl,hB⟩
      ·have aA:=Lib.hid hS;clear hS;refine aN (aV rfl) ?_;go_simp;have Xx:Below (wk.heap.size) wk (wk.drew):=aA.out;have Fa:wk.heap.size<=(wk.drew).heap.size:=Nat.le_trans (by omega) (show Below (wk.heap.size) wk (wk.drew) from aA.out).size;refine hK.out _ _ (kQ (by omega) aA.out _) (fun hS=>?_);clear hK K aA
       try replace XQ:=XQ.alloc (.cells #[.int .i64 0,.int .i64 0] 39)
       have XQ:=aj.new (wk.drew) 39 #[.int .i64 0,.int .i64 0]
       try simp only [World.size_drew,World.size_alloc] at XQ Fa
       try simp only [pu]
       refine aW (i:=6) (aH au rfl) (fun K hK=>?_);have aA:=Lib.hid hS;clear hS;refine aN (aV rfl) ?_;go_simp;refine (mZ.out _ aA.out).mono ?_;rintro e bC ⟨rfl,bM⟩;have hS:iq (wk.heap.size) wk bC:=bT (w:=wk) aA.out bM;clear aA
       try replace XQ:=XQ.keep bM
       refine hK.out _ _ hS (fun _=>?_);clear hK K
       try simp only [pu]
       iterate 3
        apply jV;exact au;exact rfl;exact hS;exact rfl
        · intro _ hqc;go_simp;try rfl
        try simp only [pu]
       refine aW (i:=11) (aH au rfl) (fun K hK=>?_);have aA:=Lib.hid hS;clear hS;refine aN (aV rfl) ?_;obtain ⟨Xy,Xz,XB,XD,XE⟩:=XQ.bH;go_simp;refine hK.out _ _ (by unfold iq;have h:Below _ _ _:=aA.out;repeat (first | with_reducible assumption | with_reducible exact Below.refl _ _ | with_reducible refine qJ ?_ (by first | omega | (simp;omega)) _ | with_reducible refine Below.drew ?_ | with_reducible refine kQ (by omega) ?_ _ | exact h)) ?_;intro hS;clear hK K aA
       try simp only [pu]
       apply jV;exact au;exact rfl;exact hS;exact rfl
       · intro _ hqc;go_simp;try rfl
       try simp only [pu]
       refine bQ ?_;refine aC.down _ _ ?_;have hB:Below (wk.heap.size) wk _:=hS;clear hS aC au;go_wp2_with fail;go_meet
       case rel => exact ⟨_,rfl,(by first | with_reducible exact aj.rW XQ | with_reducible exact aj.made rfl _ _ | with_reducible exact aj.drew (aj.made rfl _ _)),rfl,hB⟩
     case rest =>
     obtain ⟨g18,rfl,x18,rfl,hbc⟩:=hcut;obtain ⟨wq,hwq⟩:∃ wq:World,wq=wc:=⟨_,rfl⟩;rw [<- hwq] at x18 hbc ⊢;have aur:=Lib.hid x18;have Hbc:=Lib.hid hbc;have cfq:=gU hbc Cf1.out;have avQ:bf<wq.heap.size:=Nat.lt_of_lt_of_le auq hbc.size;have X2q:=auo.out.keep hbc;have X9q:=aup.out.keep hbc;have pI:=Lib.hid (fun W (hW:Below wq.heap.size wq W)=>pX.out W (bT Hbc.out hW));clear hwq hbc x18 X2 cu cO dH dZ cf1 mZ pX;obtain ⟨aus,aut,auu,auv,-,-,-⟩:=X2q.aY;obtain ⟨auw,auy,auz,auA,-,-,-⟩:=X9q.aY;go_upto_region 22 with fail;go_cut [20,21] (fun u y wx=>∃ g,u=.pointer (some ⟨g,0,none⟩)/\aj wx g 39 #[.int .i64 m.x,.int .i64 m.y]/\y=.bool bm/\Below wq.heap.size wq wx)
     case first =>
      refine cZ (iq (wq.heap.size) wq) (.run 6 0 0 (.two 6 127 (.run 3 7 127 (.call 10 2047 (.call 11 4095 (.take 12 8191 (.done))))) 10 1087 (.call 6 1151 (.run 3 7 1151 (.call 11 4095 (.take 12 8191 (.done))))))) (by kernel_rfl) (Below.drew (Below.refl _ _)) (by kernel_rfl) (by kernel_rfl) (Nat.le_of_ble_eq_true (by kernel_rfl)) ?_;intro dn QR au aC hS
      iterate 6
       apply jV;exact au;exact rfl;exact hS;exact rfl
       · intro _ hqc;go_simp;try rfl
       try simp only [pu]
      refine xG (i:=6) (j:=10) (aH au rfl) (aH au rfl) (fun K hK=>?_) (fun K hK=>?_)
      ·have aA:=Lib.hid hS;clear hS;refine aN (aV rfl) ?_;go_simp;refine (pI.out _ aA.out).mono ?_;rintro e bC ⟨rfl,bM⟩;have hS:iq (wq.heap.size) wq bC:=bT (w:=wq) aA.out bM;clear aA
       try replace XQ:=XQ.keep bM
       refine hK.out _ _ hS (fun _=>?_);clear hK K
       try simp only [pu]
       iterate 3
        apply jV;exact au;exact rfl;exact hS;exact rfl
        · intro _ hqc;go_simp;try rfl
        try simp only [pu]
       refine aW (i:=10) (aH au rfl) (fun K hK=>?_);have aA:=Lib.hid hS;clear hS;refine aN (aV rfl) ?_;go_simp;have Xx:Below (wq.heap.size) wq (bC):=aA.out;have Fa:wq.heap.size<=(bC).heap.size:=Nat.le_trans (by omega) (show Below (wq.heap.size) wq (bC) from aA.out).size;refine hK.out _ _ (kQ (by omega) aA.out _) (fun hS=>?_);clear hK K aA
       try replace XQ:=XQ.alloc (.cells #[.int .i64 0,.int .i64 0] 39)
       have XQ:=aj.new (bC) 39 #[.int .i64 0,.int .i64 0]
       try simp only [World.size_drew,World.size_alloc] at XQ Fa
       try simp only [pu]
       refine aW (i:=11) (aH au rfl) (fun K hK=>?_);have aA:=Lib.hid hS;clear hS;refine aN (aV rfl) ?_;obtain ⟨Xy,Xz,XB,XD,XE⟩:=XQ.bH;go_simp;refine hK.out _ _ (by unfold iq;have h:Below _ _ _:=aA.out;repeat (first | with_reducible assumption | with_reducible exact Below.refl _ _ | with_reducible refine qJ ?_ (by first | omega | (simp;omega)) _ | with_reducible refine Below.drew ?_ | with_reducible refine kQ (by omega) ?_ _ | exact h)) ?_;intro hS;clear hK K aA
       try simp only [pu]
       apply jV;exact au;exact rfl;exact hS;exact rfl
       · intro _ hqc;go_simp;try rfl
       try simp only [pu]
       refine bQ ?_;refine aC.down _ _ ?_;have hB:Below (wq.heap.size) wq _:=hS;clear hS aC au;go_wp2_with fail;go_meet
       case rel => exact ⟨_,rfl,(by first | with_reducible exact aj.rW XQ | with_reducible exact aj.made rfl _ _ | with_reducible exact aj.drew (aj.made rfl _ _)),rfl,hB⟩
      ·have aA:=Lib.hid hS;clear hS;refine aN (aV rfl) ?_;go_simp;have Xx:Below (wq.heap.size) wq (wq.drew):=aA.out;have Fa:wq.heap.size<=(wq.drew).heap.size:=Nat.le_trans (by omega) (show Below (wq.heap.size) wq (wq.drew) from aA.out).size;refine hK.out _ _ (kQ (by omega) aA.out _) (fun hS=>?_);clear hK K aA
       try replace XQ:=XQ.alloc (.cells #[.int .i64 0,.int .i64 0] 39)
       have XQ:=aj.new (wq.drew) 39 #[.int .i64 0,.int .i64 0]
       try simp only [World.size_drew,World.size_alloc] at XQ Fa
       try simp only [pu]
       refine aW (i:=6) (aH au rfl) (fun K hK=>?_);have aA:=Lib.hid hS;clear hS;refine aN (aV rfl) ?_;go_simp;refine (pI.out _ aA.out).mono ?_;rintro e bC ⟨rfl,bM⟩;have hS:iq (wq.heap.size) wq bC:=bT (w:=wq) aA.out bM;clear aA
       try replace XQ:=XQ.keep bM
       refine hK.out _ _ hS (fun _=>?_);clear hK K
       try simp only [pu]
       iterate 3
        apply jV;exact au;exact rfl;exact hS;exact rfl
        · intro _ hqc;go_simp;try rfl
        try simp only [pu]
       refine aW (i:=11) (aH au rfl) (fun K hK=>?_);have aA:=Lib.hid hS;clear hS;refine aN (aV rfl) ?_;obtain ⟨Xy,Xz,XB,XD,XE⟩:=XQ.bH;go_simp;refine hK.out _ _ (by unfold iq;have h:Below _ _ _:=aA.out;repeat (first | with_reducible assumption | with_reducible exact Below.refl _ _ | with_reducible refine qJ ?_ (by first | omega | (simp;omega)) _ | with_reducible refine Below.drew ?_ | with_reducible refine kQ (by omega) ?_ _ | exact h)) ?_;intro hS;clear hK K aA
       try simp only [pu]
       apply jV;exact au;exact rfl;exact hS;exact rfl
       · intro _ hqc;go_simp;try rfl
       try simp only [pu]
       refine bQ ?_;refine aC.down _ _ ?_;have hB:Below (wq.heap.size) wq _:=hS;clear hS aC au;go_wp2_with fail;go_meet
       case rel => exact ⟨_,rfl,(by first | with_reducible exact aj.rW XQ | with_reducible exact aj.made rfl _ _ | with_reducible exact aj.drew (aj.made rfl _ _)),rfl,hB⟩
     case rest =>
     obtain ⟨g20,rfl,x20,rfl,hbd⟩:=hcut;obtain ⟨wz,hwz⟩:∃ wz:World,wz=wc:=⟨_,rfl⟩;rw [<- hwz] at x20 hbd ⊢;have x18:=aur.out.keep hbd;have RP:=Lib.hid (bT Hbk.out (bT Hbc.out hbd));have hE:∀ W,(binOp .neq 39 (.agg #[.int .i64 m.x,.int .i64 m.y]) (.agg #[.int .i64 m.x,.int .i64 m.y])).run Tryz.prog W=.ok (.bool false) W:=fun W=>by
      have h:=ajP m m W;rw [show (!decide (m=m))=false by simp] at h;exact h
     have hbb:(bm != bm)=false:=by simp
     clear hwz hbd X2q aus aut auu auv X9q auw auy auz auA cfq pI;obtain ⟨avR,avS,avT,-,-⟩:=x18.bH;obtain ⟨avU,avV,x20b,-,-⟩:=x20.bH;go_wp2_with fail;go_roundw
     case rel => exact ⟨kf+1,by omega,by go_num,RP.out⟩
     case measure => simp [intOf];omega
    ·obtain rfl:kf=nf:=by omega
     try clear cu
     try clear cO
     try clear dH
     try clear dZ
     obtain ⟨cu,cO,dH,dZ,-,-,-⟩:=X2.aY;go_wp2_with fail;refine (zO.out _).mono ?_;rintro e w12 ⟨rfl,auB⟩;go_wp2_with fail;go_ret;exact ⟨rfl,bT (bT yG.out zM.out) auB⟩
  case succ =>
   have hmV:m<V.length:=by omega
   have hm1:(((m+1:Nat):Int)-1)=(m:Int):=by omega
   rw [hm1];clear hm1;obtain ⟨bv,ov,rfl,hlv,e0',e1'⟩:=HSV.out m hmV;have e0:=((Om Hb.out).1 _ _ hlv).trans e0';have e1:=((Om Hb.out).1 _ _ hlv).trans e1';have d3:=((Om Hb.out).1 _ _ hbg).trans HD3.out;clear e0' e1';have X6:=Si.out;have X2:=Ob.out.below Hb.out (by omega)
   try clear jd
   try clear jf
   try clear jg
   try clear pW
   try clear qX
   try clear CB
   try clear CG
   obtain ⟨jd,jf,jg,pW,qX,CB,CG,Qq,Qr,ah8,asH,avW,avX⟩:=X6.kZ
   try clear cu
   try clear cO
   try clear dH
   try clear dZ
   obtain ⟨cu,cO,dH,dZ,-,-,-⟩:=X2.aY;have q1:0<=(m:Int):=by omega
   have q2:(m:Int)<V.length:=by omega
   have q3:(m:Int).toNat=m:=by omega
   have hnew:=Lib.hid (show (V.drop (m+1)).reverse++[V[m]]=(V.drop m).reverse by rw [<- List.reverse_cons,List.drop_eq_getElem_cons hmV]);have hlen:=Lib.hid (show (V.drop (m+1)).reverse.length=V.length-(m+1) by simp);have hlen':=Lib.hid (show (V.drop m).reverse.length=V.length-m by simp);have avY:g6<wo.heap.size:=jd;have ajC:w.heap.size<g6:=by omega
   have V5:b<wo.heap.size:=by omega
   have hlv2:bv<wo.heap.size:=by omega
   go_upto_region 12 with fail;refine cZ (iq (g6) wo) (.take 0 1 (.run 9 2 1 (.two 1 2047 (.call 11 4095 (.call 12 8191 (.take 13 16383 (.call 14 32767 (.done))))) 11 4093 (.call 1 4095 (.call 12 8191 (.take 13 16383 (.call 14 32767 (.done)))))))) (by kernel_rfl) (Below.drew (Below.refl _ _)) (by kernel_rfl) (by kernel_rfl) (Nat.le_of_ble_eq_true (by kernel_rfl)) ?_;intro dn QR au aC hS
   iterate 10
    apply jV;exact au;exact rfl;exact hS;exact rfl
    · intro _ hqc;go_simp;try rfl
    try simp only [pu]
   refine xG (i:=1) (j:=11) (aH au rfl) (aH au rfl) (fun K hK=>?_) (fun K hK=>?_)
   ·have aA:=Lib.hid hS;clear hS;refine aN (aV rfl) ?_;go_simp;refine hK.out _ _ aA.out (fun hS=>?_);clear hK K aA
    try simp only [pu]
    refine aW (i:=11) (aH au rfl) (fun K hK=>?_);have aA:=Lib.hid hS;clear hS;refine aN (aV rfl) ?_;go_simp;refine hK.out _ _ (kQ (by omega) aA.out _) (fun hS=>?_);clear hK K aA
    try simp only [pu]
    refine aW (i:=12) (aH au rfl) (fun K hK=>?_);have aA:=Lib.hid hS;clear hS;refine aN (aV rfl) ?_;refine BP (.tmp 80) (.tmp 90) _ rfl (base:=g6+1) (l:=(V.drop (m+1)).reverse) (l2:=[V[m]]) Fp DV Fq rfl (Own.alloc Fg.out _) rfl (gW.one (x:=V[m]) (aj.made rfl _ _)) (by have:=hlen.out;simp only [List.length_cons,List.length_nil];omega) (by have:=hlen.out;simp only [List.length_cons,List.length_nil];omega) (by simp;omega) ?_;intro v9 wn hon hgn ab8;rw [hnew.out] at hon;obtain ⟨A9,c9,Ia,-⟩:=Own.sl hon;rw [hlen'.out] at Ia;subst Ia;have Ky:=aj.grown (aj.alloc (aj.drew Si.out) _) hgn (fun e=>by have:=(Fg.out.lt g6 e.symm).1;omega);obtain ⟨-,-,-,-,n3,-,-,-,-,-,nf3,-,-⟩:=Ky.kZ;have acG:=Lib.hid Ky;have Sj:=Lib.hid hon;clear Ky hon;have hS:iq g6 wo wn:=Below.grown (Below.alloc (Below.drew (Below.refl _ _)) (by simp;omega) _) hgn (by simp;omega) (fun g hg=>by have:=(Fg.out.lt g hg).1;omega);clear aA;refine hK.out _ _ hS (fun _=>?_);clear hK K
    try simp only [pu]
    apply jV;exact au;exact rfl;exact hS;exact rfl
    · intro _ hqc;go_simp;try rfl
    try simp only [pu]
    refine aW (i:=14) (aH au rfl) (fun K hK=>?_);have aA:=Lib.hid hS;clear hS;refine aN (aV rfl) ?_;go_simp;refine hK.out _ _ (by unfold iq;have h:Below _ _ _:=aA.out;repeat (first | with_reducible assumption | with_reducible exact Below.refl _ _ | with_reducible refine qJ ?_ (by first | omega | (simp;omega)) _ | with_reducible refine Below.drew ?_ | with_reducible refine kQ (by omega) ?_ _ | exact h)) ?_;intro hS;clear hK K aA
    try simp only [pu]
    refine bQ ?_;refine aC.down _ _ ?_;have hB:Below (g6) wo _:=hS;clear hS aC au;go_wp2_with fail;go_roundw
    case rel => exact ⟨m,A9,c9,by omega,rfl,by have h:=aj.fC acG.out 3 (.slice A9 (V.length-m) c9);simpa using h,Sj.out.far (p:=⟨g6,3,none⟩) (fun e=>by have:=(Sj.out.lt g6 e).1;omega) _,Hb.out.trans hB⟩
    case measure => simp [intOf]
   ·have aA:=Lib.hid hS;clear hS;refine aN (aV rfl) ?_;go_simp;refine hK.out _ _ (kQ (by omega) aA.out _) (fun hS=>?_);clear hK K aA
    try simp only [pu]
    refine aW (i:=1) (aH au rfl) (fun K hK=>?_);have aA:=Lib.hid hS;clear hS;refine aN (aV rfl) ?_;go_simp;refine hK.out _ _ aA.out (fun hS=>?_);clear hK K aA
    try simp only [pu]
    refine aW (i:=12) (aH au rfl) (fun K hK=>?_);have aA:=Lib.hid hS;clear hS;refine aN (aV rfl) ?_;refine BP (.tmp 80) (.tmp 90) _ rfl (base:=g6+1) (l:=(V.drop (m+1)).reverse) (l2:=[V[m]]) Fp DV Fq rfl (Own.alloc Fg.out _) rfl (gW.one (x:=V[m]) (aj.made rfl _ _)) (by have:=hlen.out;simp only [List.length_cons,List.length_nil];omega) (by have:=hlen.out;simp only [List.length_cons,List.length_nil];omega) (by simp;omega) ?_;intro v9 wn hon hgn ab8;rw [hnew.out] at hon;obtain ⟨A9,c9,Ia,-⟩:=Own.sl hon;rw [hlen'.out] at Ia;subst Ia;have Ky:=aj.grown (aj.alloc (aj.drew Si.out) _) hgn (fun e=>by have:=(Fg.out.lt g6 e.symm).1;omega);obtain ⟨-,-,-,-,n3,-,-,-,-,-,nf3,-,-⟩:=Ky.kZ;have acG:=Lib.hid Ky;have Sj:=Lib.hid hon;clear Ky hon;have hS:iq g6 wo wn:=Below.grown (Below.alloc (Below.drew (Below.refl _ _)) (by simp;omega) _) hgn (by simp;omega) (fun g hg=>by have:=(Fg.out.lt g hg).1;omega);clear aA;refine hK.out _ _ hS (fun _=>?_);clear hK K
    try simp only [pu]
    apply jV;exact au;exact rfl;exact hS;exact rfl
    · intro _ hqc;go_simp;try rfl
    try simp only [pu]
    refine aW (i:=14) (aH au rfl) (fun K hK=>?_);have aA:=Lib.hid hS;clear hS;refine aN (aV rfl) ?_;go_simp;refine hK.out _ _ (by unfold iq;have h:Below _ _ _:=aA.out;repeat (first | with_reducible assumption | with_reducible exact Below.refl _ _ | with_reducible refine qJ ?_ (by first | omega | (simp;omega)) _ | with_reducible refine Below.drew ?_ | with_reducible refine kQ (by omega) ?_ _ | exact h)) ?_;intro hS;clear hK K aA
    try simp only [pu]
    refine bQ ?_;refine aC.down _ _ ?_;have hB:Below (g6) wo _:=hS;clear hS aC au;go_wp2_with fail;go_roundw
    case rel => exact ⟨m,A9,c9,by omega,rfl,by have h:=aj.fC acG.out 3 (.slice A9 (V.length-m) c9);simpa using h,Sj.out.far (p:=⟨g6,3,none⟩) (fun e=>by have:=(Sj.out.lt g6 e).1;omega) _,Hb.out.trans hB⟩
    case measure => simp [intOf]
end Go.Proofs.YtialfdomhoojiaaGreat
