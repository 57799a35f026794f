import Derived.Deep.CutBlock
import Derived.WalkMore
import Derived.Test.YtialfdomhoojiaaGreatJ16
import Derived.Test.YtialfdomhoojiaaGreatJ04
import Derived.Test.YtialfdomhoojiaaGreatGB
import Derived.Test.YtialfdomhoojiaaGreatJ15
set_option linter.unusedSimpArgs false
set_option linter.unusedVariables false
namespace Go.Proofs.YtialfdomhoojiaaGreat
open Go.RowKit
structure EP (W:World) (g9 g10 g11 g12:Nat) (a b c:Pt):Prop where
 pa:ah W g9 39 #[.int .i64 a.x,.int .i64 a.y]
 pb:ah W g10 39 #[.int .i64 b.x,.int .i64 b.y]
 pc:ah W g11 39 #[.int .i64 c.x,.int .i64 c.y]
 fn:∃ g7 g8 g3 g4 g5,ah W g12 43 #[.func (.func 211) #[] #[.pointer (some ⟨g7,0,none⟩),.pointer (some ⟨g8,0,none⟩),.pointer (some ⟨g3,0,none⟩),.pointer (some ⟨g4,0,none⟩),.pointer (some ⟨g5,0,none⟩)]]/\EN W g7 g8 g3 g4 g5 a b c
theorem EP.keep {W W':World} {g9 g10 g11 g12:Nat} {a b c:Pt} (h:EP W g9 g10 g11 g12 a b c) (hb:Below W.heap.size W W'):EP W' g9 g10 g11 g12 a b c:=by
 obtain ⟨h1,h2,h3,g7,g8,g3,g4,g5,h4,h5⟩:=h;exact ⟨h1.keep hb,h2.keep hb,h3.keep hb,g7,g8,g3,g4,g5,h4.keep hb,h5.keep hb⟩
set_option maxRecDepth 100000 in
set_option maxHeartbeats 4000000 in
theorem agy (a b c q:Pt) (g9 g10 g11 g12:Nat) (w:World) (h:EP w g9 g10 g11 g12 a b c) :
  Calls Tryz.prog 149 #[aF q,.pointer (some ⟨g9,0,none⟩),.pointer (some ⟨g10,0,none⟩),.pointer (some ⟨g11,0,none⟩),.pointer (some ⟨g12,0,none⟩)] w fun e w'=>e=.returned (.bool (sJ a b c q))/\Below w.heap.size w w':=by
 obtain ⟨X1,X2,X3,g7,g8,g3,g4,g5,X4,hT⟩:=h;have HT:=Lib.hid (fun W (hW:Below w.heap.size w W)=>agb a b c q g7 g8 g3 g4 g5 W (hT.keep hW));obtain ⟨z,hz⟩:∃ z,qR a b c q=z:=⟨_,rfl⟩;unfold sJ;rw [hz] at HT ⊢;have hE1:=xZ q a;have hE2:=xZ q b;have H9:=xZ q c;unfold aF at HT ⊢;obtain ⟨d1,hd1⟩:∃ d,decide (q=a)=d:=⟨_,rfl⟩;obtain ⟨d2,hd2⟩:∃ d,decide (q=b)=d:=⟨_,rfl⟩;obtain ⟨d3,hd3⟩:∃ d,decide (q=c)=d:=⟨_,rfl⟩;have n1:decide (q≠a) = !d1:=by rw [<- hd1];simp
 have n2:decide (q≠b) = !d2:=by rw [<- hd2];simp
 have n3:decide (q≠c) = !d3:=by rw [<- hd3];simp
 rw [n1,n2,n3];rw [hd1] at hE1;rw [hd2] at hE2;rw [hd3] at H9;clear hT hz hd1 hd2 hd3 n1 n2 n3;have iE:=Lib.hid X1;have eF:=Lib.hid X2;have dP:=Lib.hid X3;have dJ:=Lib.hid X4;go_enter Tryz.func149,Tryz.ntmps149;go_upto_region 1 with fail;obtain ⟨W1,hW⟩:∃ W:World,W=w.alloc (.cells #[.int .i64 q.x,.int .i64 q.y] 39):=⟨_,rfl⟩;have X5:ah W1 w.heap.size 39 #[.int .i64 q.x,.int .i64 q.y]:=by rw [hW];exact ah.made rfl _ _
 have HB1:=Lib.hid (show Below w.heap.size w W1 by rw [hW];exact bA (bR w) _);rw [<- hW];clear hW X1 X2 X3 X4;have X1:=iE.out.keep HB1.out;have X2:=eF.out.keep HB1.out;have X3:=dP.out.keep HB1.out;have X4:=dJ.out.keep HB1.out;obtain ⟨aZ,bf,bg,-,-⟩:=X1.aO;obtain ⟨bF,bH,bI,-,-⟩:=X2.aO;obtain ⟨aW,aX,aY,-,-⟩:=X3.aO;obtain ⟨aU,aV,-⟩:=X4.fC;obtain ⟨bV,bW,dH,-,-⟩:=X5.aO
 cases d1
 case true =>
  go_wp2_with fail;go_ret;exact ⟨rfl,HB1.out⟩
 cases d2
 case true =>
  go_wp2_with fail;go_ret;exact ⟨rfl,HB1.out⟩
 cases d3
 case true =>
  go_wp2_with fail;go_ret;exact ⟨rfl,HB1.out⟩
 go_wp2_with fail;refine (HT.out _ HB1.out).mono ?_;rintro e w2 ⟨rfl,hb2⟩;have HB2:=Lib.hid (bT HB1.out hb2);clear hb2;go_wp2_with fail;go_ret;exact ⟨rfl,HB2.out⟩
structure jV (p:Pl):Prop where
 lT:p.nodes.length<=1000000
 gY:p.au.length<=1000000
 via:∀ a∈p.au,a.via.length<=1000000
set_option maxRecDepth 100000 in
set_option maxHeartbeats 8000000 in
theorem free_spec (v vp:Value) (p:Pl) (a:Ar) (A:Option Addr) (c:Nat) (P:List Pt) (i:Nat) (w:World) (h:dh w v p) (hP:bU w vp P) (hm:jV p) (hi:i<a.via.length) (hl:P.length=a.via.length+2) :
  Calls Tryz.prog 94 #[v,gZ a (.slice A a.via.length c),vp,.int .i64 i] w fun e w'=>e=.returned (.bool (pz p a P i))/\Below w.heap.size w w':=by
 have o8:=Lib.hid (fun W (hW:Below w.heap.size w W)=>ags v (.slice A a.via.length c) p a W (h.mono hW) hm.gY);have hvl:=hm.via;have hnl:=hm.lT;have ajP:=hm.gY;obtain ⟨_,_,_,al,rfl,hpa,⟨An,cn,rfl,hn1,hn2,Ia⟩,⟨⟨Aa,ca,rfl,ha1,ha2,fO⟩,hV⟩,⟨Af,cf,rfl,hf1,hf2,-⟩⟩:=h;obtain ⟨AP,cP,rfl,hp1,hp2,oI⟩:=hP;have HRn:=Lib.hid Ia;have iV:=Lib.hid fO;have BD:=Lib.hid hV;have agz:=Lib.hid hpa;have hal:al.length=p.au.length:=by rw [hpa,List.length_map]
 unfold maxLen at hp2;obtain ⟨b,o,hA1,hlb,c0,c1⟩:=oI.pt (show i<P.length by omega);obtain ⟨b',o',hA2,-,c2,c3⟩:=oI.pt (show i+1<P.length by omega);obtain ⟨b'',o'',hA3,-,c4,c5⟩:=oI.pt (show i+2<P.length by omega);subst hA1;injection hA2 with hA2;injection hA2 with q1 q2 _;subst q1 q2;injection hA3 with hA3;injection hA3 with q1 q2 _;subst q1 q2;obtain ⟨R,hR⟩:∃ R,pz p a P i=R:=⟨_,rfl⟩;rw [hR];unfold pz at hR;rw [List.getD_eq_getElem?_getD,List.getElem?_eq_getElem (show i<P.length by omega),List.getD_eq_getElem?_getD,List.getElem?_eq_getElem (show i+1<P.length by omega),List.getD_eq_getElem?_getD,List.getElem?_eq_getElem (show i+2<P.length by omega)] at hR;simp only [Option.getD_some] at hR;generalize P[i]=t1 at *;generalize P[i+1]=t2 at *;generalize P[i+2]=t3 at *;have zF:=Lib.hid (fun W=>Qr t1 W);have zG:=Lib.hid (fun W=>Qr t2 W);have zH:=Lib.hid (fun W=>Qr t3 W);have QB:=Lib.hid (fun W=>agd t1 t2 t3 W);have HR:=Lib.hid hR;obtain ⟨blk,hblk⟩:∃ blk,sJ t1 t2 t3=blk:=⟨_,rfl⟩;have qW:=Lib.hid (fun q g9 g10 g11 g12 W (h:EP W g9 g10 g11 g12 t1 t2 t3)=>show Calls Tryz.prog 149 #[aF q,.pointer (some ⟨g9,0,none⟩),.pointer (some ⟨g10,0,none⟩),.pointer (some ⟨g11,0,none⟩),.pointer (some ⟨g12,0,none⟩)] W fun e w'=>e=.returned (.bool (blk q))/\Below W.heap.size W w' from by rw [<- hblk];exact agy t1 t2 t3 q g9 g10 g11 g12 W h);rw [hblk] at HR;unfold aF at zF zG zH QB qW;unfold gZ at o8 ⊢;clear hblk oI Ia fO hV hpa hm;generalize hnn:p.nodes.length=nn at *;generalize hnf:p.faces.length=nf at *;have Ce:=Lib.hid hnn;generalize hvn:a.via.length=vn at *;have vC:=Lib.hid hal;have k0:IntKind.i64.wrap ((i:Int)+1)=(i:Int)+1:=IntWalk.i64_in _ (by omega);have k1:IntKind.i64.wrap ((i:Int)+2)=(i:Int)+2:=IntWalk.i64_in _ (by omega);obtain ⟨np,hnp⟩:∃ np,P.length=np:=⟨_,rfl⟩;have l0:0<=(i:Int):=by omega
 have l1:(i:Int)<np:=by omega
 have l2:(i:Int)+1<np:=by omega
 have l3:(i:Int)+2<np:=by omega
 have l4:0<=(i:Int)+1:=by omega
 have l5:0<=(i:Int)+2:=by omega
 have l6:((i:Int)+2).toNat=i+2:=by omega
 rw [hnp];clear hnn hnf hvn hR hal hl hnp;go_enter Tryz.func94,Tryz.ntmps94;go_upto_region 1 with fail;obtain ⟨W1,hW⟩:∃ W:World,W=(w.alloc (.cells #[.slice An nn cn,.slice Aa al.length ca,.slice Af nf cf] 26)).alloc (.cells #[.int .i64 a.id,.int .i64 a.fr,.int .i64 a.dst,.slice A vn c,.int .i64 a.left,.int .i64 a.right] 50):=⟨_,rfl⟩;have X4:ah W1 w.heap.size 26 #[.slice An nn cn,.slice Aa al.length ca,.slice Af nf cf]:=by rw [hW];exact (ah.made rfl _ _).alloc _
 have X5:ah W1 (w.heap.size+1) 50 #[.int .i64 a.id,.int .i64 a.fr,.int .i64 a.dst,.slice A vn c,.int .i64 a.left,.int .i64 a.right]:=by rw [hW];exact ah.made (by simp) _ _
 have HB1:=Lib.hid (show Below w.heap.size w W1 by rw [hW];exact bA (bA (bR w) _) _);rw [<- hW];clear hW;have dJ:=Lib.hid X4;have bP:=Lib.hid X5;replace c0:=pX HB1.out c0;replace c1:=pX HB1.out c1;replace c2:=pX HB1.out c2;replace c3:=pX HB1.out c3;replace c4:=pX HB1.out c4;replace c5:=pX HB1.out c5;have Pn:b<W1.heap.size:=Nat.lt_of_lt_of_le hlb HB1.out.size;clear X4 X5;go_step3;go_upto_region 1 with fail;go_cut [9,10,11] (fun u1 u2 u3 wx=>∃ g9 g10 g11,u1=.pointer (some ⟨g9,0,none⟩)/\u2=.pointer (some ⟨g10,0,none⟩)/\u3=.pointer (some ⟨g11,0,none⟩)/\ah wx g9 39 #[.int .i64 t1.x,.int .i64 t1.y]/\ah wx g10 39 #[.int .i64 t2.x,.int .i64 t2.y]/\ah wx g11 39 #[.int .i64 t3.x,.int .i64 t3.y]/\Below W1.heap.size W1 wx)
 case first =>
  refine agt (fA (W1.heap.size) W1) (.run 14 0 0 (.three 14 32767 (.two 15 65535 (.call 16 131071 (.call 17 262143 (.call 18 524287 (.call 19 1048575 (.done))))) 16 98303 (.call 15 131071 (.call 17 262143 (.call 18 524287 (.call 19 1048575 (.done)))))) 15 49151 (.two 14 65535 (.call 16 131071 (.call 17 262143 (.call 18 524287 (.call 19 1048575 (.done))))) 16 114687 (.call 14 131071 (.call 17 262143 (.call 18 524287 (.call 19 1048575 (.done)))))) 16 81919 (.two 14 98303 (.call 15 131071 (.call 17 262143 (.call 18 524287 (.call 19 1048575 (.done))))) 15 114687 (.call 14 131071 (.call 17 262143 (.call 18 524287 (.call 19 1048575 (.done)))))))) (by kernel_rfl) (Below.drew (Below.refl _ _)) (by kernel_rfl) (by kernel_rfl) (Nat.le_of_ble_eq_true (by kernel_rfl)) ?_;intro dO QR aj aA hS
  iterate 14
   apply agx;exact aj;exact rfl;exact hS;exact rfl
   · intro _ hqc;go_simp;try rfl
   try simp only [pu]
  refine agv (i:=14) (j:=15) (k:=16) (aB aj rfl) (aB aj rfl) (aB aj rfl) (fun K hK=>?_) (fun K hK=>?_) (fun K hK=>?_)
  ·have ak:=Lib.hid hS;clear hS;refine aG (aN rfl) ?_;go_simp;have Ld:Below (W1.heap.size) W1 (W1.drew):=ak.out;have xC:W1.heap.size<=(W1.drew).heap.size:=Nat.le_trans (by omega) (show Below (W1.heap.size) W1 (W1.drew) from ak.out).size;refine hK.out _ _ (fP (by omega) ak.out _) (fun hS=>?_);clear hK K ak
   try replace XA:=XA.alloc (.cells #[.int .i64 0,.int .i64 0] 39)
   try replace XB:=XB.alloc (.cells #[.int .i64 0,.int .i64 0] 39)
   try replace XC:=XC.alloc (.cells #[.int .i64 0,.int .i64 0] 39)
   have XA:=ah.new (W1.drew) 39 #[.int .i64 0,.int .i64 0]
   try simp only [World.size_drew,World.size_alloc] at XA xC
   try simp only [pu]
   refine QA (i:=15) (j:=16) (aB aj rfl) (aB aj rfl) (fun K hK=>?_) (fun K hK=>?_)
   ·have ak:=Lib.hid hS;clear hS;refine aG (aN rfl) ?_;go_simp;have Le:Below (W1.heap.size) W1 ((W1.alloc (.cells #[.int .i64 0,.int .i64 0] 39)).drew):=ak.out;have xE:W1.heap.size<=((W1.alloc (.cells #[.int .i64 0,.int .i64 0] 39)).drew).heap.size:=Nat.le_trans (by omega) (show Below (W1.heap.size) W1 ((W1.alloc (.cells #[.int .i64 0,.int .i64 0] 39)).drew) from ak.out).size;refine hK.out _ _ (fP (by omega) ak.out _) (fun hS=>?_);clear hK K ak
    try replace XA:=XA.alloc (.cells #[.int .i64 0,.int .i64 0] 39)
    try replace XB:=XB.alloc (.cells #[.int .i64 0,.int .i64 0] 39)
    try replace XC:=XC.alloc (.cells #[.int .i64 0,.int .i64 0] 39)
    have XB:=ah.new ((W1.alloc (.cells #[.int .i64 0,.int .i64 0] 39)).drew) 39 #[.int .i64 0,.int .i64 0]
    try simp only [World.size_drew,World.size_alloc] at XB xE
    try simp only [pu]
    refine jC (i:=16) (aB aj rfl) (fun K hK=>?_);have ak:=Lib.hid hS;clear hS;refine aG (aN rfl) ?_;go_simp;have Lh:Below (W1.heap.size) W1 (((W1.alloc (.cells #[.int .i64 0,.int .i64 0] 39)).alloc (.cells #[.int .i64 0,.int .i64 0] 39)).drew):=ak.out;have xG:W1.heap.size<=(((W1.alloc (.cells #[.int .i64 0,.int .i64 0] 39)).alloc (.cells #[.int .i64 0,.int .i64 0] 39)).drew).heap.size:=Nat.le_trans (by omega) (show Below (W1.heap.size) W1 (((W1.alloc (.cells #[.int .i64 0,.int .i64 0] 39)).alloc (.cells #[.int .i64 0,.int .i64 0] 39)).drew) from ak.out).size;refine hK.out _ _ (fP (by omega) ak.out _) (fun hS=>?_);clear hK K ak
    try replace XA:=XA.alloc (.cells #[.int .i64 0,.int .i64 0] 39)
    try replace XB:=XB.alloc (.cells #[.int .i64 0,.int .i64 0] 39)
    try replace XC:=XC.alloc (.cells #[.int .i64 0,.int .i64 0] 39)
    have XC:=ah.new (((W1.alloc (.cells #[.int .i64 0,.int .i64 0] 39)).alloc (.cells #[.int .i64 0,.int .i64 0] 39)).drew) 39 #[.int .i64 0,.int .i64 0]
    try simp only [World.size_drew,World.size_alloc] at XC xG
    try simp only [pu]
    refine jC (i:=17) (aB aj rfl) (fun K hK=>?_);have ak:=Lib.hid hS;clear hS;refine aG (aN rfl) ?_;obtain ⟨Ib,Ic,Ie,Ig,Ih⟩:=XA.aO;obtain ⟨BR,BU,BX,BZ,Cb⟩:=XB.aO;obtain ⟨Ii,Ij,Ik,Il,Io⟩:=XC.aO;go_simp;refine hK.out _ _ (by unfold fA;have h:Below _ _ _:=ak.out;repeat (first | with_reducible assumption | with_reducible exact Below.refl _ _ | with_reducible refine jY ?_ (by first | omega | (simp;omega)) _ | with_reducible refine Below.drew ?_ | with_reducible refine fP (by omega) ?_ _ | exact h)) ?_;intro hS;clear hK K ak
    try simp only [pu]
    refine jC (i:=18) (aB aj rfl) (fun K hK=>?_);have ak:=Lib.hid hS;clear hS;refine aG (aN rfl) ?_;go_simp;refine hK.out _ _ (by unfold fA;have h:Below _ _ _:=ak.out;repeat (first | with_reducible assumption | with_reducible exact Below.refl _ _ | with_reducible refine jY ?_ (by first | omega | (simp;omega)) _ | with_reducible refine Below.drew ?_ | with_reducible refine fP (by omega) ?_ _ | exact h)) ?_;intro hS;clear hK K ak
    try simp only [pu]
    refine jC (i:=19) (aB aj rfl) (fun K hK=>?_);have ak:=Lib.hid hS;clear hS;refine aG (aN rfl) ?_;go_simp;refine hK.out _ _ (by unfold fA;have h:Below _ _ _:=ak.out;repeat (first | with_reducible assumption | with_reducible exact Below.refl _ _ | with_reducible refine jY ?_ (by first | omega | (simp;omega)) _ | with_reducible refine Below.drew ?_ | with_reducible refine fP (by omega) ?_ _ | exact h)) ?_;intro hS;clear hK K ak
    try simp only [pu]
    refine EO ?_;refine aA.down _ _ ?_;have hB:Below (W1.heap.size) W1 _:=hS;clear hS aA aj;go_wp2_with fail;go_meet
    case rel => exact ⟨_,_,_,rfl,rfl,rfl,(by first | exact (((ah.made rfl _ _).alloc _).alloc _).drew | exact ((ah.made (by simp) _ _).alloc _).drew | exact (ah.made (by simp) _ _).drew),(by first | exact (((ah.made rfl _ _).alloc _).alloc _).drew | exact ((ah.made (by simp) _ _).alloc _).drew | exact (ah.made (by simp) _ _).drew),(by first | exact (((ah.made rfl _ _).alloc _).alloc _).drew | exact ((ah.made (by simp) _ _).alloc _).drew | exact (ah.made (by simp) _ _).drew),hB⟩
   ·have ak:=Lib.hid hS;clear hS;refine aG (aN rfl) ?_;go_simp;have Lh:Below (W1.heap.size) W1 ((W1.alloc (.cells #[.int .i64 0,.int .i64 0] 39)).drew):=ak.out;have xG:W1.heap.size<=((W1.alloc (.cells #[.int .i64 0,.int .i64 0] 39)).drew).heap.size:=Nat.le_trans (by omega) (show Below (W1.heap.size) W1 ((W1.alloc (.cells #[.int .i64 0,.int .i64 0] 39)).drew) from ak.out).size;refine hK.out _ _ (fP (by omega) ak.out _) (fun hS=>?_);clear hK K ak
    try replace XA:=XA.alloc (.cells #[.int .i64 0,.int .i64 0] 39)
    try replace XB:=XB.alloc (.cells #[.int .i64 0,.int .i64 0] 39)
    try replace XC:=XC.alloc (.cells #[.int .i64 0,.int .i64 0] 39)
    have XC:=ah.new ((W1.alloc (.cells #[.int .i64 0,.int .i64 0] 39)).drew) 39 #[.int .i64 0,.int .i64 0]
    try simp only [World.size_drew,World.size_alloc] at XC xG
    try simp only [pu]
    refine jC (i:=15) (aB aj rfl) (fun K hK=>?_);have ak:=Lib.hid hS;clear hS;refine aG (aN rfl) ?_;go_simp;have Le:Below (W1.heap.size) W1 (((W1.alloc (.cells #[.int .i64 0,.int .i64 0] 39)).alloc (.cells #[.int .i64 0,.int .i64 0] 39)).drew):=ak.out;have xE:W1.heap.size<=(((W1.alloc (.cells #[.int .i64 0,.int .i64 0] 39)).alloc (.cells #[.int .i64 0,.int .i64 0] 39)).drew).heap.size:=Nat.le_trans (by omega) (show Below (W1.heap.size) W1 (((W1.alloc (.cells #[.int .i64 0,.int .i64 0] 39)).alloc (.cells #[.int .i64 0,.int .i64 0] 39)).drew) from ak.out).size;refine hK.out _ _ (fP (by omega) ak.out _) (fun hS=>?_);clear hK K ak
    try replace XA:=XA.alloc (.cells #[.int .i64 0,.int .i64 0] 39)
    try replace XB:=XB.alloc (.cells #[.int .i64 0,.int .i64 0] 39)
    try replace XC:=XC.alloc (.cells #[.int .i64 0,.int .i64 0] 39)
    have XB:=ah.new (((W1.alloc (.cells #[.int .i64 0,.int .i64 0] 39)).alloc (.cells #[.int .i64 0,.int .i64 0] 39)).drew) 39 #[.int .i64 0,.int .i64 0]
    try simp only [World.size_drew,World.size_alloc] at XB xE
    try simp only [pu]
    refine jC (i:=17) (aB aj rfl) (fun K hK=>?_);have ak:=Lib.hid hS;clear hS;refine aG (aN rfl) ?_;obtain ⟨Ib,Ic,Ie,Ig,Ih⟩:=XA.aO;obtain ⟨BR,BU,BX,BZ,Cb⟩:=XB.aO;obtain ⟨Ii,Ij,Ik,Il,Io⟩:=XC.aO;go_simp;refine hK.out _ _ (by unfold fA;have h:Below _ _ _:=ak.out;repeat (first | with_reducible assumption | with_reducible exact Below.refl _ _ | with_reducible refine jY ?_ (by first | omega | (simp;omega)) _ | with_reducible refine Below.drew ?_ | with_reducible refine fP (by omega) ?_ _ | exact h)) ?_;intro hS;clear hK K ak
    try simp only [pu]
    refine jC (i:=18) (aB aj rfl) (fun K hK=>?_);have ak:=Lib.hid hS;clear hS;refine aG (aN rfl) ?_;go_simp;refine hK.out _ _ (by unfold fA;have h:Below _ _ _:=ak.out;repeat (first | with_reducible assumption | with_reducible exact Below.refl _ _ | with_reducible refine jY ?_ (by first | omega | (simp;omega)) _ | with_reducible refine Below.drew ?_ | with_reducible refine fP (by omega) ?_ _ | exact h)) ?_;intro hS;clear hK K ak
    try simp only [pu]
    refine jC (i:=19) (aB aj rfl) (fun K hK=>?_);have ak:=Lib.hid hS;clear hS;refine aG (aN rfl) ?_;go_simp;refine hK.out _ _ (by unfold fA;have h:Below _ _ _:=ak.out;repeat (first | with_reducible assumption | with_reducible exact Below.refl _ _ | with_reducible refine jY ?_ (by first | omega | (simp;omega)) _ | with_reducible refine Below.drew ?_ | with_reducible refine fP (by omega) ?_ _ | exact h)) ?_;intro hS;clear hK K ak
    try simp only [pu]
    refine EO ?_;refine aA.down _ _ ?_;have hB:Below (W1.heap.size) W1 _:=hS;clear hS aA aj;go_wp2_with fail;go_meet
    case rel => exact ⟨_,_,_,rfl,rfl,rfl,(by first | exact (((ah.made rfl _ _).alloc _).alloc _).drew | exact ((ah.made (by simp) _ _).alloc _).drew | exact (ah.made (by simp) _ _).drew),(by first | exact (((ah.made rfl _ _).alloc _).alloc _).drew | exact ((ah.made (by simp) _ _).alloc _).drew | exact (ah.made (by simp) _ _).drew),(by first | exact (((ah.made rfl _ _).alloc _).alloc _).drew | exact ((ah.made (by simp) _ _).alloc _).drew | exact (ah.made (by simp) _ _).drew),hB⟩
  ·have ak:=Lib.hid hS;clear hS;refine aG (aN rfl) ?_;go_simp;have Le:Below (W1.heap.size) W1 (W1.drew):=ak.out;have xE:W1.heap.size<=(W1.drew).heap.size:=Nat.le_trans (by omega) (show Below (W1.heap.size) W1 (W1.drew) from ak.out).size;refine hK.out _ _ (fP (by omega) ak.out _) (fun hS=>?_);clear hK K ak
   try replace XA:=XA.alloc (.cells #[.int .i64 0,.int .i64 0] 39)
   try replace XB:=XB.alloc (.cells #[.int .i64 0,.int .i64 0] 39)
   try replace XC:=XC.alloc (.cells #[.int .i64 0,.int .i64 0] 39)
   have XB:=ah.new (W1.drew) 39 #[.int .i64 0,.int .i64 0]
   try simp only [World.size_drew,World.size_alloc] at XB xE
   try simp only [pu]
   refine QA (i:=14) (j:=16) (aB aj rfl) (aB aj rfl) (fun K hK=>?_) (fun K hK=>?_)
   ·have ak:=Lib.hid hS;clear hS;refine aG (aN rfl) ?_;go_simp;have Ld:Below (W1.heap.size) W1 ((W1.alloc (.cells #[.int .i64 0,.int .i64 0] 39)).drew):=ak.out;have xC:W1.heap.size<=((W1.alloc (.cells #[.int .i64 0,.int .i64 0] 39)).drew).heap.size:=Nat.le_trans (by omega) (show Below (W1.heap.size) W1 ((W1.alloc (.cells #[.int .i64 0,.int .i64 0] 39)).drew) from ak.out).size;refine hK.out _ _ (fP (by omega) ak.out _) (fun hS=>?_);clear hK K ak
    try replace XA:=XA.alloc (.cells #[.int .i64 0,.int .i64 0] 39)
    try replace XB:=XB.alloc (.cells #[.int .i64 0,.int .i64 0] 39)
    try replace XC:=XC.alloc (.cells #[.int .i64 0,.int .i64 0] 39)
    have XA:=ah.new ((W1.alloc (.cells #[.int .i64 0,.int .i64 0] 39)).drew) 39 #[.int .i64 0,.int .i64 0]
    try simp only [World.size_drew,World.size_alloc] at XA xC
    try simp only [pu]
    refine jC (i:=16) (aB aj rfl) (fun K hK=>?_);have ak:=Lib.hid hS;clear hS;refine aG (aN rfl) ?_;go_simp;have Lh:Below (W1.heap.size) W1 (((W1.alloc (.cells #[.int .i64 0,.int .i64 0] 39)).alloc (.cells #[.int .i64 0,.int .i64 0] 39)).drew):=ak.out;have xG:W1.heap.size<=(((W1.alloc (.cells #[.int .i64 0,.int .i64 0] 39)).alloc (.cells #[.int .i64 0,.int .i64 0] 39)).drew).heap.size:=Nat.le_trans (by omega) (show Below (W1.heap.size) W1 (((W1.alloc (.cells #[.int .i64 0,.int .i64 0] 39)).alloc (.cells #[.int .i64 0,.int .i64 0] 39)).drew) from ak.out).size;refine hK.out _ _ (fP (by omega) ak.out _) (fun hS=>?_);clear hK K ak
    try replace XA:=XA.alloc (.cells #[.int .i64 0,.int .i64 0] 39)
    try replace XB:=XB.alloc (.cells #[.int .i64 0,.int .i64 0] 39)
    try replace XC:=XC.alloc (.cells #[.int .i64 0,.int .i64 0] 39)
    have XC:=ah.new (((W1.alloc (.cells #[.int .i64 0,.int .i64 0] 39)).alloc (.cells #[.int .i64 0,.int .i64 0] 39)).drew) 39 #[.int .i64 0,.int .i64 0]
    try simp only [World.size_drew,World.size_alloc] at XC xG
    try simp only [pu]
    refine jC (i:=17) (aB aj rfl) (fun K hK=>?_);have ak:=Lib.hid hS;clear hS;refine aG (aN rfl) ?_;obtain ⟨Ib,Ic,Ie,Ig,Ih⟩:=XA.aO;obtain ⟨BR,BU,BX,BZ,Cb⟩:=XB.aO;obtain ⟨Ii,Ij,Ik,Il,Io⟩:=XC.aO;go_simp;refine hK.out _ _ (by unfold fA;have h:Below _ _ _:=ak.out;repeat (first | with_reducible assumption | with_reducible exact Below.refl _ _ | with_reducible refine jY ?_ (by first | omega | (simp;omega)) _ | with_reducible refine Below.drew ?_ | with_reducible refine fP (by omega) ?_ _ | exact h)) ?_;intro hS;clear hK K ak
    try simp only [pu]
    refine jC (i:=18) (aB aj rfl) (fun K hK=>?_);have ak:=Lib.hid hS;clear hS;refine aG (aN rfl) ?_;go_simp;refine hK.out _ _ (by unfold fA;have h:Below _ _ _:=ak.out;repeat (first | with_reducible assumption | with_reducible exact Below.refl _ _ | with_reducible refine jY ?_ (by first | omega | (simp;omega)) _ | with_reducible refine Below.drew ?_ | with_reducible refine fP (by omega) ?_ _ | exact h)) ?_;intro hS;clear hK K ak
    try simp only [pu]
    refine jC (i:=19) (aB aj rfl) (fun K hK=>?_);have ak:=Lib.hid hS;clear hS;refine aG (aN rfl) ?_;go_simp;refine hK.out _ _ (by unfold fA;have h:Below _ _ _:=ak.out;repeat (first | with_reducible assumption | with_reducible exact Below.refl _ _ | with_reducible refine jY ?_ (by first | omega | (simp;omega)) _ | with_reducible refine Below.drew ?_ | with_reducible refine fP (by omega) ?_ _ | exact h)) ?_;intro hS;clear hK K ak
    try simp only [pu]
    refine EO ?_;refine aA.down _ _ ?_;have hB:Below (W1.heap.size) W1 _:=hS;clear hS aA aj;go_wp2_with fail;go_meet
    case rel => exact ⟨_,_,_,rfl,rfl,rfl,(by first | exact (((ah.made rfl _ _).alloc _).alloc _).drew | exact ((ah.made (by simp) _ _).alloc _).drew | exact (ah.made (by simp) _ _).drew),(by first | exact (((ah.made rfl _ _).alloc _).alloc _).drew | exact ((ah.made (by simp) _ _).alloc _).drew | exact (ah.made (by simp) _ _).drew),(by first | exact (((ah.made rfl _ _).alloc _).alloc _).drew | exact ((ah.made (by simp) _ _).alloc _).drew | exact (ah.made (by simp) _ _).drew),hB⟩
   ·have ak:=Lib.hid hS;clear hS;refine aG (aN rfl) ?_;go_simp;have Lh:Below (W1.heap.size) W1 ((W1.alloc (.cells #[.int .i64 0,.int .i64 0] 39)).drew):=ak.out;have xG:W1.heap.size<=((W1.alloc (.cells #[.int .i64 0,.int .i64 0] 39)).drew).heap.size:=Nat.le_trans (by omega) (show Below (W1.heap.size) W1 ((W1.alloc (.cells #[.int .i64 0,.int .i64 0] 39)).drew) from ak.out).size;refine hK.out _ _ (fP (by omega) ak.out _) (fun hS=>?_);clear hK K ak
    try replace XA:=XA.alloc (.cells #[.int .i64 0,.int .i64 0] 39)
    try replace XB:=XB.alloc (.cells #[.int .i64 0,.int .i64 0] 39)
    try replace XC:=XC.alloc (.cells #[.int .i64 0,.int .i64 0] 39)
    have XC:=ah.new ((W1.alloc (.cells #[.int .i64 0,.int .i64 0] 39)).drew) 39 #[.int .i64 0,.int .i64 0]
    try simp only [World.size_drew,World.size_alloc] at XC xG
    try simp only [pu]
    refine jC (i:=14) (aB aj rfl) (fun K hK=>?_);have ak:=Lib.hid hS;clear hS;refine aG (aN rfl) ?_;go_simp;have Ld:Below (W1.heap.size) W1 (((W1.alloc (.cells #[.int .i64 0,.int .i64 0] 39)).alloc (.cells #[.int .i64 0,.int .i64 0] 39)).drew):=ak.out;have xC:W1.heap.size<=(((W1.alloc (.cells #[.int .i64 0,.int .i64 0] 39)).alloc (.cells #[.int .i64 0,.int .i64 0] 39)).drew).heap.size:=Nat.le_trans (by omega) (show Below (W1.heap.size) W1 (((W1.alloc (.cells #[.int .i64 0,.int .i64 0] 39)).alloc (.cells #[.int .i64 0,.int .i64 0] 39)).drew) from ak.out).size;refine hK.out _ _ (fP (by omega) ak.out _) (fun hS=>?_);clear hK K ak
    try replace XA:=XA.alloc (.cells #[.int .i64 0,.int .i64 0] 39)
    try replace XB:=XB.alloc (.cells #[.int .i64 0,.int .i64 0] 39)
    try replace XC:=XC.alloc (.cells #[.int .i64 0,.int .i64 0] 39)
    have XA:=ah.new (((W1.alloc (.cells #[.int .i64 0,.int .i64 0] 39)).alloc (.cells #[.int .i64 0,.int .i64 0] 39)).drew) 39 #[.int .i64 0,.int .i64 0]
    try simp only [World.size_drew,World.size_alloc] at XA xC
    try simp only [pu]
    refine jC (i:=17) (aB aj rfl) (fun K hK=>?_);have ak:=Lib.hid hS;clear hS;refine aG (aN rfl) ?_;obtain ⟨Ib,Ic,Ie,Ig,Ih⟩:=XA.aO;obtain ⟨BR,BU,BX,BZ,Cb⟩:=XB.aO;obtain ⟨Ii,Ij,Ik,Il,Io⟩:=XC.aO;go_simp;refine hK.out _ _ (by unfold fA;have h:Below _ _ _:=ak.out;repeat (first | with_reducible assumption | with_reducible exact Below.refl _ _ | with_reducible refine jY ?_ (by first | omega | (simp;omega)) _ | with_reducible refine Below.drew ?_ | with_reducible refine fP (by omega) ?_ _ | exact h)) ?_;intro hS;clear hK K ak
    try simp only [pu]
    refine jC (i:=18) (aB aj rfl) (fun K hK=>?_);have ak:=Lib.hid hS;clear hS;refine aG (aN rfl) ?_;go_simp;refine hK.out _ _ (by unfold fA;have h:Below _ _ _:=ak.out;repeat (first | with_reducible assumption | with_reducible exact Below.refl _ _ | with_reducible refine jY ?_ (by first | omega | (simp;omega)) _ | with_reducible refine Below.drew ?_ | with_reducible refine fP (by omega) ?_ _ | exact h)) ?_;intro hS;clear hK K ak
    try simp only [pu]
    refine jC (i:=19) (aB aj rfl) (fun K hK=>?_);have ak:=Lib.hid hS;clear hS;refine aG (aN rfl) ?_;go_simp;refine hK.out _ _ (by unfold fA;have h:Below _ _ _:=ak.out;repeat (first | with_reducible assumption | with_reducible exact Below.refl _ _ | with_reducible refine jY ?_ (by first | omega | (simp;omega)) _ | with_reducible refine Below.drew ?_ | with_reducible refine fP (by omega) ?_ _ | exact h)) ?_;intro hS;clear hK K ak
    try simp only [pu]
    refine EO ?_;refine aA.down _ _ ?_;have hB:Below (W1.heap.size) W1 _:=hS;clear hS aA aj;go_wp2_with fail;go_meet
    case rel => exact ⟨_,_,_,rfl,rfl,rfl,(by first | exact (((ah.made rfl _ _).alloc _).alloc _).drew | exact ((ah.made (by simp) _ _).alloc _).drew | exact (ah.made (by simp) _ _).drew),(by first | exact (((ah.made rfl _ _).alloc _).alloc _).drew | exact ((ah.made (by simp) _ _).alloc _).drew | exact (ah.made (by simp) _ _).drew),(by first | exact (((ah.made rfl _ _).alloc _).alloc _).drew | exact ((ah.made (by simp) _ _).alloc _).drew | exact (ah.made (by simp) _ _).drew),hB⟩
  ·have ak:=Lib.hid hS;clear hS;refine aG (aN rfl) ?_;go_simp;have Lh:Below (W1.heap.size) W1 (W1.drew):=ak.out;have xG:W1.heap.size<=(W1.drew).heap.size:=Nat.le_trans (by omega) (show Below (W1.heap.size) W1 (W1.drew) from ak.out).size;refine hK.out _ _ (fP (by omega) ak.out _) (fun hS=>?_);clear hK K ak
   try replace XA:=XA.alloc (.cells #[.int .i64 0,.int .i64 0] 39)
   try replace XB:=XB.alloc (.cells #[.int .i64 0,.int .i64 0] 39)
   try replace XC:=XC.alloc (.cells #[.int .i64 0,.int .i64 0] 39)
   have XC:=ah.new (W1.drew) 39 #[.int .i64 0,.int .i64 0]
   try simp only [World.size_drew,World.size_alloc] at XC xG
   try simp only [pu]
   refine QA (i:=14) (j:=15) (aB aj rfl) (aB aj rfl) (fun K hK=>?_) (fun K hK=>?_)
   ·have ak:=Lib.hid hS;clear hS;refine aG (aN rfl) ?_;go_simp;have Ld:Below (W1.heap.size) W1 ((W1.alloc (.cells #[.int .i64 0,.int .i64 0] 39)).drew):=ak.out;have xC:W1.heap.size<=((W1.alloc (.cells #[.int .i64 0,.int .i64 0] 39)).drew).heap.size:=Nat.le_trans (by omega) (show Below (W1.heap.size) W1 ((W1.alloc (.cells #[.int .i64 0,.int .i64 0] 39)).drew) from ak.out).size;refine hK.out _ _ (fP (by omega) ak.out _) (fun hS=>?_);clear hK K ak
    try replace XA:=XA.alloc (.cells #[.int .i64 0,.int .i64 0] 39)
    try replace XB:=XB.alloc (.cells #[.int .i64 0,.int .i64 0] 39)
    try replace XC:=XC.alloc (.cells #[.int .i64 0,.int .i64 0] 39)
    have XA:=ah.new ((W1.alloc (.cells #[.int .i64 0,.int .i64 0] 39)).drew) 39 #[.int .i64 0,.int .i64 0]
    try simp only [World.size_drew,World.size_alloc] at XA xC
    try simp only [pu]
    refine jC (i:=15) (aB aj rfl) (fun K hK=>?_);have ak:=Lib.hid hS;clear hS;refine aG (aN rfl) ?_;go_simp;have Le:Below (W1.heap.size) W1 (((W1.alloc (.cells #[.int .i64 0,.int .i64 0] 39)).alloc (.cells #[.int .i64 0,.int .i64 0] 39)).drew):=ak.out;have xE:W1.heap.size<=(((W1.alloc (.cells #[.int .i64 0,.int .i64 0] 39)).alloc (.cells #[.int .i64 0,.int .i64 0] 39)).drew).heap.size:=Nat.le_trans (by omega) (show Below (W1.heap.size) W1 (((W1.alloc (.cells #[.int .i64 0,.int .i64 0] 39)).alloc (.cells #[.int .i64 0,.int .i64 0] 39)).drew) from ak.out).size;refine hK.out _ _ (fP (by omega) ak.out _) (fun hS=>?_);clear hK K ak
    try replace XA:=XA.alloc (.cells #[.int .i64 0,.int .i64 0] 39)
    try replace XB:=XB.alloc (.cells #[.int .i64 0,.int .i64 0] 39)
    try replace XC:=XC.alloc (.cells #[.int .i64 0,.int .i64 0] 39)
    have XB:=ah.new (((W1.alloc (.cells #[.int .i64 0,.int .i64 0] 39)).alloc (.cells #[.int .i64 0,.int .i64 0] 39)).drew) 39 #[.int .i64 0,.int .i64 0]
    try simp only [World.size_drew,World.size_alloc] at XB xE
    try simp only [pu]
    refine jC (i:=17) (aB aj rfl) (fun K hK=>?_);have ak:=Lib.hid hS;clear hS;refine aG (aN rfl) ?_;obtain ⟨Ib,Ic,Ie,Ig,Ih⟩:=XA.aO;obtain ⟨BR,BU,BX,BZ,Cb⟩:=XB.aO;obtain ⟨Ii,Ij,Ik,Il,Io⟩:=XC.aO;go_simp;refine hK.out _ _ (by unfold fA;have h:Below _ _ _:=ak.out;repeat (first | with_reducible assumption | with_reducible exact Below.refl _ _ | with_reducible refine jY ?_ (by first | omega | (simp;omega)) _ | with_reducible refine Below.drew ?_ | with_reducible refine fP (by omega) ?_ _ | exact h)) ?_;intro hS;clear hK K ak
    try simp only [pu]
    refine jC (i:=18) (aB aj rfl) (fun K hK=>?_);have ak:=Lib.hid hS;clear hS;refine aG (aN rfl) ?_;go_simp;refine hK.out _ _ (by unfold fA;have h:Below _ _ _:=ak.out;repeat (first | with_reducible assumption | with_reducible exact Below.refl _ _ | with_reducible refine jY ?_ (by first | omega | (simp;omega)) _ | with_reducible refine Below.drew ?_ | with_reducible refine fP (by omega) ?_ _ | exact h)) ?_;intro hS;clear hK K ak
    try simp only [pu]
    refine jC (i:=19) (aB aj rfl) (fun K hK=>?_);have ak:=Lib.hid hS;clear hS;refine aG (aN rfl) ?_;go_simp;refine hK.out _ _ (by unfold fA;have h:Below _ _ _:=ak.out;repeat (first | with_reducible assumption | with_reducible exact Below.refl _ _ | with_reducible refine jY ?_ (by first | omega | (simp;omega)) _ | with_reducible refine Below.drew ?_ | with_reducible refine fP (by omega) ?_ _ | exact h)) ?_;intro hS;clear hK K ak
    try simp only [pu]
    refine EO ?_;refine aA.down _ _ ?_;have hB:Below (W1.heap.size) W1 _:=hS;clear hS aA aj;go_wp2_with fail;go_meet
    case rel => exact ⟨_,_,_,rfl,rfl,rfl,(by first | exact (((ah.made rfl _ _).alloc _).alloc _).drew | exact ((ah.made (by simp) _ _).alloc _).drew | exact (ah.made (by simp) _ _).drew),(by first | exact (((ah.made rfl _ _).alloc _).alloc _).drew | exact ((ah.made (by simp) _ _).alloc _).drew | exact (ah.made (by simp) _ _).drew),(by first | exact (((ah.made rfl _ _).alloc _).alloc _).drew | exact ((ah.made (by simp) _ _).alloc _).drew | exact (ah.made (by simp) _ _).drew),hB⟩
   ·have ak:=Lib.hid hS;clear hS;refine aG (aN rfl) ?_;go_simp;have Le:Below (W1.heap.size) W1 ((W1.alloc (.cells #[.int .i64 0,.int .i64 0] 39)).drew):=ak.out;have xE:W1.heap.size<=((W1.alloc (.cells #[.int .i64 0,.int .i64 0] 39)).drew).heap.size:=Nat.le_trans (by omega) (show Below (W1.heap.size) W1 ((W1.alloc (.cells #[.int .i64 0,.int .i64 0] 39)).drew) from ak.out).size;refine hK.out _ _ (fP (by omega) ak.out _) (fun hS=>?_);clear hK K ak
    try replace XA:=XA.alloc (.cells #[.int .i64 0,.int .i64 0] 39)
    try replace XB:=XB.alloc (.cells #[.int .i64 0,.int .i64 0] 39)
    try replace XC:=XC.alloc (.cells #[.int .i64 0,.int .i64 0] 39)
    have XB:=ah.new ((W1.alloc (.cells #[.int .i64 0,.int .i64 0] 39)).drew) 39 #[.int .i64 0,.int .i64 0]
    try simp only [World.size_drew,World.size_alloc] at XB xE
    try simp only [pu]
    refine jC (i:=14) (aB aj rfl) (fun K hK=>?_);have ak:=Lib.hid hS;clear hS;refine aG (aN rfl) ?_;go_simp;have Ld:Below (W1.heap.size) W1 (((W1.alloc (.cells #[.int .i64 0,.int .i64 0] 39)).alloc (.cells #[.int .i64 0,.int .i64 0] 39)).drew):=ak.out;have xC:W1.heap.size<=(((W1.alloc (.cells #[.int .i64 0,.int .i64 0] 39)).alloc (.cells #[.int .i64 0,.int .i64 0] 39)).drew).heap.size:=Nat.le_trans (by omega) (show Below (W1.heap.size) W1 (((W1.alloc (.cells #[.int .i64 0,.int .i64 0] 39)).alloc (.cells #[.int .i64 0,.int .i64 0] 39)).drew) from ak.out).size;refine hK.out _ _ (fP (by omega) ak.out _) (fun hS=>?_);clear hK K ak
    try replace XA:=XA.alloc (.cells #[.int .i64 0,.int .i64 0] 39)
    try replace XB:=XB.alloc (.cells #[.int .i64 0,.int .i64 0] 39)
    try replace XC:=XC.alloc (.cells #[.int .i64 0,.int .i64 0] 39)
    have XA:=ah.new (((W1.alloc (.cells #[.int .i64 0,.int .i64 0] 39)).alloc (.cells #[.int .i64 0,.int .i64 0] 39)).drew) 39 #[.int .i64 0,.int .i64 0]
    try simp only [World.size_drew,World.size_alloc] at XA xC
    try simp only [pu]
    refine jC (i:=17) (aB aj rfl) (fun K hK=>?_);have ak:=Lib.hid hS;clear hS;refine aG (aN rfl) ?_;obtain ⟨Ib,Ic,Ie,Ig,Ih⟩:=XA.aO;obtain ⟨BR,BU,BX,BZ,Cb⟩:=XB.aO;obtain ⟨Ii,Ij,Ik,Il,Io⟩:=XC.aO;go_simp;refine hK.out _ _ (by unfold fA;have h:Below _ _ _:=ak.out;repeat (first | with_reducible assumption | with_reducible exact Below.refl _ _ | with_reducible refine jY ?_ (by first | omega | (simp;omega)) _ | with_reducible refine Below.drew ?_ | with_reducible refine fP (by omega) ?_ _ | exact h)) ?_;intro hS;clear hK K ak
    try simp only [pu]
    refine jC (i:=18) (aB aj rfl) (fun K hK=>?_);have ak:=Lib.hid hS;clear hS;refine aG (aN rfl) ?_;go_simp;refine hK.out _ _ (by unfold fA;have h:Below _ _ _:=ak.out;repeat (first | with_reducible assumption | with_reducible exact Below.refl _ _ | with_reducible refine jY ?_ (by first | omega | (simp;omega)) _ | with_reducible refine Below.drew ?_ | with_reducible refine fP (by omega) ?_ _ | exact h)) ?_;intro hS;clear hK K ak
    try simp only [pu]
    refine jC (i:=19) (aB aj rfl) (fun K hK=>?_);have ak:=Lib.hid hS;clear hS;refine aG (aN rfl) ?_;go_simp;refine hK.out _ _ (by unfold fA;have h:Below _ _ _:=ak.out;repeat (first | with_reducible assumption | with_reducible exact Below.refl _ _ | with_reducible refine jY ?_ (by first | omega | (simp;omega)) _ | with_reducible refine Below.drew ?_ | with_reducible refine fP (by omega) ?_ _ | exact h)) ?_;intro hS;clear hK K ak
    try simp only [pu]
    refine EO ?_;refine aA.down _ _ ?_;have hB:Below (W1.heap.size) W1 _:=hS;clear hS aA aj;go_wp2_with fail;go_meet
    case rel => exact ⟨_,_,_,rfl,rfl,rfl,(by first | exact (((ah.made rfl _ _).alloc _).alloc _).drew | exact ((ah.made (by simp) _ _).alloc _).drew | exact (ah.made (by simp) _ _).drew),(by first | exact (((ah.made rfl _ _).alloc _).alloc _).drew | exact ((ah.made (by simp) _ _).alloc _).drew | exact (ah.made (by simp) _ _).drew),(by first | exact (((ah.made rfl _ _).alloc _).alloc _).drew | exact ((ah.made (by simp) _ _).alloc _).drew | exact (ah.made (by simp) _ _).drew),hB⟩
 case rest =>
 obtain ⟨g9,g10,g11,rfl,rfl,rfl,x9,x10,x11,hbc⟩:=hcut;obtain ⟨W2,hW⟩:∃ W:World,W=wc:=⟨_,rfl⟩;rw [<- hW] at x9 x10 x11 hbc ⊢;have HB2:=Lib.hid (bT HB1.out hbc);have pG:=Lib.hid (dJ.out.keep hbc);have KJ:=Lib.hid (bP.out.keep hbc);have mF:=Lib.hid x9;have ou:=Lib.hid x10;have Ci:=Lib.hid x11;clear hW hbc c0 c1 c2 c3 c4 c5 Pn k0 k1 l0 l1 l2 l3 l4 l5 l6 dJ bP HB1;have hR:=HR.out;clear HR;obtain ⟨yc,Lj,x9b,-,-⟩:=x9.aO;obtain ⟨tN,Cj,x10b,-,-⟩:=x10.aO;obtain ⟨Cm,CB,x11b,-,-⟩:=x11.aO;obtain ⟨v1,hv1⟩:∃ v,fK t1=v:=⟨_,rfl⟩;rw [hv1] at hR zF;clear hv1;go_upto_region 2 with fail;go_wp2_with fail;refine (zF.out _).mono ?_;rintro e w3 ⟨rfl,hb3⟩;have HB3:=Lib.hid hb3;clear hb3 x9 yc Lj x9b x10 tN Cj x10b x11 Cm CB x11b zF
 cases v1
 case false =>
  rw [Bool.false_and] at hR;subst hR;go_wp2_with fail;rw [Exit.noGoto_ret];go_ret;exact ⟨rfl,bT HB2.out HB3.out⟩
 rw [Bool.true_and] at hR;obtain ⟨v2,hv2⟩:∃ v,fK t2=v:=⟨_,rfl⟩;rw [hv2] at hR zG;have x10:=ou.out.keep HB3.out;clear hv2
 try clear tN
 try clear Cj
 try clear x10b
 obtain ⟨tN,Cj,x10b,-,-⟩:=x10.aO;go_wp2_with fail;refine (zG.out _).mono ?_;rintro e w4 ⟨rfl,hb4⟩;have HB4:=Lib.hid (bT HB3.out hb4);clear hb4 x10 tN Cj x10b zG HB3
 cases v2
 case false =>
  rw [Bool.false_and] at hR;subst hR;go_wp2_with fail;rw [Exit.noGoto_ret];go_ret;exact ⟨rfl,bT HB2.out HB4.out⟩
 rw [Bool.true_and] at hR;obtain ⟨v3,hv3⟩:∃ v,fK t3=v:=⟨_,rfl⟩;rw [hv3] at hR zH;have x11:=Ci.out.keep HB4.out;clear hv3
 try clear Cm
 try clear CB
 try clear x11b
 obtain ⟨Cm,CB,x11b,-,-⟩:=x11.aO;go_wp2_with fail;refine (zH.out _).mono ?_;rintro e w5 ⟨rfl,hb5⟩;have cO:=Lib.hid (bT HB4.out hb5);clear hb5 x11 Cm CB x11b zH HB4
 cases v3
 case false =>
  rw [Bool.false_and] at hR;subst hR;go_wp2_with fail;rw [Exit.noGoto_ret];go_ret;exact ⟨rfl,bT HB2.out cO.out⟩
 rw [Bool.true_and] at hR;have X5:=KJ.out.keep cO.out;obtain ⟨bV,bW,dH,iR,qG,yJ,yK,-,-,-,-,-,-⟩:=X5.eY;go_upto_region 4 with fail;obtain ⟨z1,hz1⟩:∃ z,(decide (a.fr=a.dst) && decide (vn<3))=z:=⟨_,rfl⟩;rw [hz1] at hR;go_cut [58] (fun u wx=>u=.bool z1/\wx=w5)
 case first =>
  cases e1:(a.fr == a.dst)
  case false =>
   have q1:=Lib.hid (show z1=false by rw [<- hz1,decide_eq_false (by simpa using e1)];rfl);clear hz1 hR;go_wp2_with fail;go_meet
   case rel => exact ⟨by rw [q1.out],rfl⟩
  case true =>
   by_cases e2:(vn:Int)<3
   ·have q1:=Lib.hid (show z1=true by rw [<- hz1,decide_eq_true (by simpa using e1),decide_eq_true (by omega)];rfl);clear hz1 hR;go_wp2_with fail;go_meet
    case rel => exact ⟨by rw [q1.out],rfl⟩
   ·have q1:=Lib.hid (show z1=false by rw [<- hz1,decide_eq_false (show ¬ vn<3 by omega),Bool.and_false]);clear hz1 hR;go_wp2_with fail;go_meet
    case rel => exact ⟨by rw [q1.out],rfl⟩
 case rest =>
 obtain ⟨rfl,hw⟩:=hcut;obtain ⟨W6,hW⟩:∃ W:World,W=wc:=⟨_,rfl⟩;rw [<- hW] at hw ⊢;subst hw;clear hW hz1 bV bW dH iR qG yJ yK
 cases z1
 case true =>
  rw [Bool.not_true,Bool.false_and] at hR;subst hR;go_wp2_with fail;rw [Exit.noGoto_ret];go_ret;exact ⟨rfl,bT HB2.out cO.out⟩
 rw [Bool.not_false,Bool.true_and] at hR;have X4:=pG.out.keep cO.out;have Ip:=Lib.hid (bT HB2.out cO.out)
 try clear bV
 try clear bW
 try clear dH
 try clear iR
 try clear qG
 try clear yJ
 try clear yK
 obtain ⟨bV,bW,dH,iR,qG,yJ,yK,-,-,-,-,-,-⟩:=X5.eY;obtain ⟨aU,aV,bQ,eP,-,-,-⟩:=X4.aJ;obtain ⟨z2,hz2⟩:∃ z,(decide (vn=1) && xA p a)=z:=⟨_,rfl⟩;rw [hz2] at hR;have dL:=Lib.hid hR;clear hR;go_upto_region 6 with fail;go_cut [67] (fun u wx=>u=.bool z2/\Below W6.heap.size W6 wx)
 case first =>
  by_cases e2:vn=1
  ·have q1:=Lib.hid (show xA p a=z2 by rw [<- hz2,decide_eq_true e2,Bool.true_and]);have e3:((vn:Int) == 1)=true:=by rw [beq_iff_eq];omega
   have HPw:=Lib.hid (o8.out W6 Ip.out);clear hz2 e2;go_wp2_with fail;refine HPw.out.mono ?_;rintro e w7 ⟨rfl,hb7⟩;go_wp2_with fail;go_meet
   case rel => exact ⟨by rw [q1.out],hb7⟩
  ·have q1:=Lib.hid (show z2=false by rw [<- hz2,decide_eq_false e2];rfl);have e3:((vn:Int) == 1)=false:=by rw [beq_eq_false_iff_ne];omega
   clear hz2 e2;go_wp2_with fail;go_meet
   case rel => exact ⟨by rw [q1.out],bR W6⟩
 case rest =>
 obtain ⟨rfl,hbc⟩:=hcut;obtain ⟨W7,hW⟩:∃ W:World,W=wc:=⟨_,rfl⟩;rw [<- hW] at hbc ⊢;have jT:=Lib.hid (bT cO.out hbc);clear hW hz2 hbc X5 bV bW dH iR qG yJ yK X4 aU aV bQ eP cO Ip
 cases z2
 case true =>
  have hR:=dL.out;rw [Bool.not_true,Bool.false_and] at hR;subst hR;go_wp2_with fail;rw [Exit.noGoto_ret];go_ret;exact ⟨rfl,bT HB2.out jT.out⟩
 have hR:=dL.out;rw [Bool.not_false,Bool.true_and] at hR;have HR:=Lib.hid hR;clear hR dL o8 KJ;have x9:=mF.out.keep jT.out;have x10:=ou.out.keep jT.out;have x11:=Ci.out.keep jT.out
 try clear yc
 try clear Lj
 try clear x9b
 obtain ⟨yc,Lj,x9b,-,-⟩:=x9.aO
 try clear tN
 try clear Cj
 try clear x10b
 obtain ⟨tN,Cj,x10b,-,-⟩:=x10.aO
 try clear Cm
 try clear CB
 try clear x11b
 obtain ⟨Cm,CB,x11b,-,-⟩:=x11.aO;go_upto_region 8 with fail;go_wp2_with fail;refine (QB.out _).mono ?_;rintro e w8 ⟨⟨g7,g8,g3,g4,g5,rfl,hT⟩,hb8⟩;have hst:=fun (a:Addr) (w:World)=>run_store Tryz.prog w a (.func (.func 211) #[] #[.pointer (some ⟨g7,0,none⟩),.pointer (some ⟨g8,0,none⟩),.pointer (some ⟨g3,0,none⟩),.pointer (some ⟨g4,0,none⟩),.pointer (some ⟨g5,0,none⟩)]) .plain rfl;have ku:=Lib.hid (bT jT.out hb8);have HT:=Lib.hid hT;clear hb8 hT x9 yc Lj x9b x10 tN Cj x10b x11 Cm CB x11b QB;go_upto_region 9 with fail;obtain ⟨g12,QC⟩:∃ g,w8.heap.size=g:=⟨_,rfl⟩;obtain ⟨W9,hW⟩:∃ W:World,W=w8.alloc (.cells #[.func (.func 211) #[] #[.pointer (some ⟨g7,0,none⟩),.pointer (some ⟨g8,0,none⟩),.pointer (some ⟨g3,0,none⟩),.pointer (some ⟨g4,0,none⟩),.pointer (some ⟨g5,0,none⟩)]] 43):=⟨_,rfl⟩;have CG:Below w8.heap.size w8 W9:=by rw [hW];exact bA (bR w8) _
 have Zx:=Lib.hid (show EP W9 g9 g10 g11 g12 t1 t2 t3 from ⟨mF.out.keep (bT ku.out CG),ou.out.keep (bT ku.out CG),Ci.out.keep (bT ku.out CG),g7,g8,g3,g4,g5,by rw [hW,<- QC];exact ah.made rfl _ _,HT.out.keep CG⟩);have X4:=pG.out.keep (bT ku.out CG);have kM:=Lib.hid (bT HB2.out (bT ku.out CG));have Zy:=Lib.hid X4;rw [<- hW,QC];clear hW QC hst CG mF ou Ci HT ku jT HB2 pG
 try clear aU
 try clear aV
 try clear bQ
 try clear eP
 obtain ⟨aU,aV,bQ,eP,-,-,-⟩:=X4.aJ;go_upto_block 0 with fail;clear X4 aU aV bQ eP;go_wp2_with fail;go_loopw [76] (fun u wr=>∃ k:Nat,k<=nn/\u=.int .i64 k/\(∀ j (hj:j<p.nodes.length),j<k->blk p.nodes[j].pt=false)/\Below W9.heap.size W9 wr) (fun u _=>nn-(intOf u).toNat)
 case atStart => exact ⟨0,Nat.zero_le _,rfl,(fun j _ h=>by omega),bR W9⟩
 case round =>
  obtain ⟨k,hk,rfl,hno,hb⟩:=hrel;obtain ⟨wo,rfl⟩:∃ wo:World,wo=wr:=⟨_,rfl⟩;have Hb:=Lib.hid hb;have jg:=Lib.hid hno;clear hb hno;by_cases hlt:k<nn
  ·have hkp:k<p.nodes.length:=by rw [Ce.out];exact hlt
   obtain ⟨b,o,rfl,hlb,c0,c1,c2⟩:=(HRn.out.mono (bT kM.out Hb.out)).nd hkp;have HX:=Lib.hid (show p.nodes[k]=p.nodes[k] from rfl);have pI:=Lib.hid (fun W (hW:Below wo.heap.size wo W)=>qW.out p.nodes[k].pt g9 g10 g11 g12 W (Zx.out.keep (bT Hb.out hW)));obtain ⟨z,hz⟩:∃ z,blk p.nodes[k].pt=z:=⟨_,rfl⟩;rw [hz] at pI;have HZ:=Lib.hid hz;clear hz;have k1:(k:Int)<nn:=by omega
   have k2:0<=(k:Int):=by omega
   go_upto_region 13 with fail;obtain ⟨nJ,hW⟩:∃ W:World,W=wo.alloc (.cells #[.int .i64 p.nodes[k].id,.int .i64 p.nodes[k].pt.x,.int .i64 p.nodes[k].pt.y] 45):=⟨_,rfl⟩;have XN:ah nJ wo.heap.size 45 #[.int .i64 p.nodes[k].id,.int .i64 p.nodes[k].pt.x,.int .i64 p.nodes[k].pt.y]:=by rw [hW];exact ah.made rfl _ _
   have hA10:Below wo.heap.size wo nJ:=by rw [hW];exact bA (bR wo) _
   have Ll:=Lib.hid hA10;rw [<- hW];clear hW hA10 c0 c1 c2;obtain ⟨Lm,Lp,Lr,Ls,-,-,-⟩:=XN.aJ;go_wp2_with fail;refine (pI.out _ Ll.out).mono ?_;rintro e yU ⟨rfl,yV⟩;have Zz:=Lib.hid (bT Hb.out (bT Ll.out yV));clear yV XN Lm Lp Lr Ls pI
   cases z
   case true =>
    have hf:R=false:=by
     rw [<- HR.out,show (p.nodes.any fun n=>blk n.pt)=true from List.any_eq_true.2 ⟨_,List.getElem_mem hkp,HZ.out⟩];rfl
    subst hf;go_wp2_with fail;rw [Exit.noGoto_ret];go_ret;exact ⟨rfl,bT kM.out Zz.out⟩
   case false =>
    go_wp2_with fail;go_roundw
    case rel => exact ⟨k+1,by omega,by go_num,(fun j hj hjk=>if e:j<k then jg.out j hj e else by
     have:j=k:=by omega
     subst this;exact HZ.out),Zz.out⟩
    case measure => simp [intOf];omega
  ·obtain rfl:k=nn:=by omega
   have hany:(p.nodes.any fun n=>blk n.pt)=false:=by
    rw [<- Bool.not_eq_true,List.any_eq_true];rintro ⟨x,hx,e⟩;obtain ⟨j,hj,rfl⟩:=List.mem_iff_getElem.1 hx;rw [jg.out j hj (by rw [Ce.out] at hj;exact hj)] at e
    cases e
   have hR:=HR.out;rw [hany,Bool.not_false,Bool.true_and] at hR;have HR':=Lib.hid hR;have X4:=Zy.out.keep Hb.out;have jl:=Lib.hid (bT kM.out Hb.out);have HIo:=Lib.hid (Zx.out.keep Hb.out);clear hany hR HR jg hlt;clear X4;go_wp2_with fail;go_step3;go_upto_region 17 with fail;have X4:=Zy.out.keep Hb.out
   try clear aU
   try clear aV
   try clear bQ
   try clear eP
   obtain ⟨aU,aV,bQ,eP,-,-,-⟩:=X4.aJ;go_upto_block 2 with fail;clear X4 aU aV bQ eP;go_cut [16] (fun u wx=>u=.bool (!(p.au.any fun b=>b.via.any blk))/\Below wo.heap.size wo wx)
   case first =>
    go_wp2_with fail;go_loopw [16,88] (fun s u wr=>∃ m:Nat,m<=al.length/\u=.int .i64 m/\s=.bool true/\(∀ j (hj:j<p.au.length),j<m->p.au[j].via.any blk=false)/\Below wo.heap.size wo wr) (fun _ u _=>al.length-(intOf u).toNat)
    case atStart => exact ⟨0,Nat.zero_le _,rfl,rfl,(fun j _ h=>by omega),bR wo⟩
    case round =>
     obtain ⟨m,hm,rfl,rfl,hno,hb⟩:=hrel;obtain ⟨wm,rfl⟩:∃ wm:World,wm=wr:=⟨_,rfl⟩;have QD:=Lib.hid hb;have sF:=Lib.hid hno;clear hb hno;by_cases hml:m<al.length
     ·have hmp:m<p.au.length:=by rw [<- vC.out];exact hml
      have hax:=Lib.hid (show p.au[m]=al[m].1 by
       have e:p.au[m]? = some al[m].1:=by rw [agz.out,List.getElem?_map,List.getElem?_eq_getElem hml];rfl
       rw [List.getElem?_eq_getElem hmp] at e;exact Option.some.inj e)
      have hvm:=hvl _ (List.getElem_mem hmp);obtain ⟨b,o,rfl,hlb,c0,c1,c2,c3,c4,c5⟩:=(iV.out.mono (bT jl.out QD.out)).ar hml;obtain ⟨Av,cv,hva,-,-,hRv⟩:=BD.out m hml;rw [hva] at c3;rw [hax.out] at hvm;have En:=Lib.hid (fun (hf:p.au[m].via.any blk=false) j (hj:j<p.au.length) (hjm:j<m+1)=>if e:j<m then sF.out j hj e else show p.au[j].via.any blk=false from by
       have:j=m:=by omega
       subst this;exact hf)
      have Lu:=Lib.hid (fun (hf:p.au[m].via.any blk=true)=>show (p.au.any fun b=>b.via.any blk)=true from List.any_eq_true.2 ⟨_,List.getElem_mem hmp,hf⟩);rw [hax.out] at En Lu;have QE:=Lib.hid hRv;obtain ⟨y,hy⟩:∃ y,al[m]=y:=⟨_,rfl⟩;rw [hy] at c0 c1 c2 c3 c4 c5 hvm En Lu QE;obtain ⟨⟨iM,vI,vJ,V,vK,vM⟩,yv⟩:=y;simp only at c0 c1 c2 c3 c4 c5 hvm En Lu QE;have k1:(m:Int)<al.length:=by omega
      have k2:0<=(m:Int):=by omega
      clear hy hva hRv hax;go_upto_region 20 with fail;obtain ⟨nJ,hW⟩:∃ W:World,W=wm.alloc (.cells #[.int .i64 iM,.int .i64 vI,.int .i64 vJ,.slice Av V.length cv,.int .i64 vK,.int .i64 vM] 50):=⟨_,rfl⟩;have XN:ah nJ wm.heap.size 50 #[.int .i64 iM,.int .i64 vI,.int .i64 vJ,.slice Av V.length cv,.int .i64 vK,.int .i64 vM]:=by rw [hW];exact ah.made rfl _ _
      have Ll:=Lib.hid (show Below wm.heap.size wm nJ by rw [hW];exact bA (bR wm) _);rw [<- hW];clear hW c0 c1 c2 c3 c4 c5
      try clear Lm
      try clear Lp
      try clear Lr
      try clear Ls
      obtain ⟨Lm,Lp,Lr,Ls,XNd,XNe,XNf,-,-,-,-,-,-⟩:=XN.eY;go_upto_block 4 with fail;clear XN Lm Lp Lr Ls XNd XNe XNf k1 k2;go_wp2_with fail;go_loopw [16,95] (fun s u wr=>∃ j:Nat,j<=V.length/\u=.int .i64 j/\s=.bool true/\(∀ i (hi:i<V.length),i<j->blk V[i]=false)/\Below nJ.heap.size nJ wr) (fun _ u _=>V.length-(intOf u).toNat)
      case atStart => exact ⟨0,Nat.zero_le _,rfl,rfl,(fun j _ h=>by omega),bR nJ⟩
      case round =>
       obtain ⟨j,hj,rfl,rfl,hno,hb⟩:=hrel;obtain ⟨wj,rfl⟩:∃ wj:World,wj=wr:=⟨_,rfl⟩;have sQ:=Lib.hid (bT QD.out (bT Ll.out hb));have ZA:=Lib.hid hno;have agA:=Lib.hid hb;clear hb hno;by_cases hjl:j<V.length
       ·obtain ⟨bv,ov,rfl,hlv,d0,d1⟩:=QE.out.pt hjl;replace d0:=pX (bT kM.out (bT Hb.out sQ.out)) d0;replace d1:=pX (bT kM.out (bT Hb.out sQ.out)) d1;have ajQ:bv<wj.heap.size:=Nat.lt_of_lt_of_le hlv (bT kM.out (bT Hb.out sQ.out)).size;have pI:=Lib.hid (fun W (hW:Below wj.heap.size wj W)=>qW.out V[j] g9 g10 g11 g12 W (HIo.out.keep (bT sQ.out hW)));obtain ⟨z,hz⟩:∃ z,blk V[j]=z:=⟨_,rfl⟩;rw [hz] at pI;have HZ:=Lib.hid hz;have k3:(j:Int)<V.length:=by omega
        have k4:0<=(j:Int):=by omega
        clear hz;obtain ⟨q,hq⟩:∃ q,V[j]=q:=⟨_,rfl⟩;rw [hq] at pI d0 d1;clear hq;go_upto_region 23 with fail;obtain ⟨ZC,hW⟩:∃ W:World,W=wj.alloc (.cells #[.int .i64 q.x,.int .i64 q.y] 39):=⟨_,rfl⟩;have XP:ah ZC wj.heap.size 39 #[.int .i64 q.x,.int .i64 q.y]:=by rw [hW];exact ah.made rfl _ _
        have QF:=Lib.hid (show Below wj.heap.size wj ZC by rw [hW];exact bA (bR wj) _);rw [<- hW];clear hW d0 d1;obtain ⟨XPl,XPa,XPb,-,-⟩:=XP.aO;go_wp2_with fail;refine (pI.out _ QF.out).mono ?_;rintro e w12 ⟨rfl,QG⟩;have agB:=Lib.hid (bT sQ.out (bT QF.out QG));have agC:=Lib.hid (bT agA.out (bT QF.out QG));clear QG XP XPl XPa XPb pI
        cases z
        case true =>
         have hh:=Lib.hid (Lu.out (List.any_eq_true.2 ⟨_,List.getElem_mem hjl,HZ.out⟩));go_wp2_with fail;go_meet
         case rel => exact ⟨by rw [hh.out];rfl,agB.out⟩
        case false =>
         go_wp2_with fail;go_roundw
         case rel => exact ⟨j+1,by omega,by go_num,rfl,(fun i hi hij=>if e:i<j then ZA.out i hi e else by
          have:i=j:=by omega
          subst this;exact HZ.out),agC.out⟩
         case measure => simp [intOf];omega
       ·obtain rfl:j=V.length:=by omega
        have hany:V.any blk=false:=by
         rw [<- Bool.not_eq_true,List.any_eq_true];rintro ⟨x,hx,e⟩;obtain ⟨j,hj,rfl⟩:=List.mem_iff_getElem.1 hx;rw [ZA.out j hj hj] at e
         cases e
        have hs:=Lib.hid (En.out hany);clear hany;go_wp2_with fail;go_roundw
        case rel => exact ⟨m+1,by omega,by go_num,rfl,hs.out,sQ.out⟩
        case measure => simp [intOf];omega
     ·obtain rfl:m=al.length:=by omega
      have hany:=Lib.hid (show (p.au.any fun b=>b.via.any blk)=false by
       rw [<- Bool.not_eq_true,List.any_eq_true];rintro ⟨x,hx,e⟩;obtain ⟨j,hj,rfl⟩:=List.mem_iff_getElem.1 hx;rw [sF.out j hj (by rw [vC.out];exact hj)] at e
       cases e)
      go_wp2_with fail;go_meet
      case rel => exact ⟨by rw [hany.out];rfl,QD.out⟩
   case rest =>
   obtain ⟨rfl,hbc⟩:=hcut;have HBc:=Lib.hid hbc;rw [HR'.out];clear hbc;go_wp2_with fail;rw [Exit.noGoto_ret];go_ret;exact ⟨rfl,bT jl.out HBc.out⟩
end Go.Proofs.YtialfdomhoojiaaGreat
