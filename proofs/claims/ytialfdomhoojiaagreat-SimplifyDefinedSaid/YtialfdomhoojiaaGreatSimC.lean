import Derived.WalkMore
import Derived.Test.YtialfdomhoojiaaGreatJ20
import Derived.Test.YtialfdomhoojiaaGreatJ21
set_option linter.unusedSimpArgs false
set_option linter.unusedVariables false
set_option maxRecDepth 100000
set_option maxHeartbeats 8000000
namespace Go.Proofs.YtialfdomhoojiaaGreat
open Go.RowKit
structure OB (W:World) (g9 g10 g11 g12:Nat) (a b c:Pt):Prop where
 pa:ah W g9 39 #[.int .i64 a.x,.int .i64 a.y]
 pb:ah W g10 39 #[.int .i64 b.x,.int .i64 b.y]
 pc:ah W g11 39 #[.int .i64 c.x,.int .i64 c.y]
 fn:∃ g7 g8 g3 g4 g5,ah W g12 43 #[.func (.func 211) #[] #[.pointer (some ⟨g7,0,none⟩),.pointer (some ⟨g8,0,none⟩),.pointer (some ⟨g3,0,none⟩),.pointer (some ⟨g4,0,none⟩),.pointer (some ⟨g5,0,none⟩)]]/\Oz W g7 g8 g3 g4 g5 a b c
theorem OB.keep {W W':World} {g9 g10 g11 g12:Nat} {a b c:Pt} (h:OB W g9 g10 g11 g12 a b c) (hb:Below W.heap.size W W'):OB W' g9 g10 g11 g12 a b c:=by
 obtain ⟨h1,h2,h3,g7,g8,g3,g4,g5,h4,h5⟩:=h;exact ⟨h1.keep hb,h2.keep hb,h3.keep hb,g7,g8,g3,g4,g5,h4.keep hb,h5.keep hb⟩
theorem apD (a b c q:Pt) (g9 g10 g11 g12:Nat) (w:World) (h:OB w g9 g10 g11 g12 a b c) :
  Calls Tryz.prog 149 #[aK q,.pointer (some ⟨g9,0,none⟩),.pointer (some ⟨g10,0,none⟩),.pointer (some ⟨g11,0,none⟩),.pointer (some ⟨g12,0,none⟩)] w fun e w'=>e=.returned (.bool (BP a b c q))/\Below w.heap.size w w':=by
 obtain ⟨X1,X2,X3,g7,g8,g3,g4,g5,X4,hT⟩:=h;have HT:=avE (fun W (hW:Below w.heap.size w W)=>apl a b c q g7 g8 g3 g4 g5 W (hT.keep hW));obtain ⟨z,hz⟩:∃ z,zM a b c q=z:=⟨_,rfl⟩;unfold BP;rw [hz] at HT ⊢;have hE1:=DX q a;have hE2:=DX q b;have RJ:=DX q c;unfold aK at HT ⊢;obtain ⟨d1,hd1⟩:∃ d,decide (q=a)=d:=⟨_,rfl⟩;obtain ⟨d2,hd2⟩:∃ d,decide (q=b)=d:=⟨_,rfl⟩;obtain ⟨d3,hd3⟩:∃ d,decide (q=c)=d:=⟨_,rfl⟩;have n1:decide (q≠a) = !d1:=by rw [<- hd1];simp
 have n2:decide (q≠b) = !d2:=by rw [<- hd2];simp
 have n3:decide (q≠c) = !d3:=by rw [<- hd3];simp
 rw [n1,n2,n3];rw [hd1] at hE1;rw [hd2] at hE2;rw [hd3] at RJ;clear hT hz hd1 hd2 hd3 n1 n2 n3;have gq:=avE X1;have dh:=avE X2;have dW:=avE X3;have dI:=avE X4;go_enter Tryz.func149,Tryz.ntmps149;go_upto_region 1 with fail;obtain ⟨W1,hW⟩:∃ W:World,W=w.alloc (.cells #[.int .i64 q.x,.int .i64 q.y] 39):=⟨_,rfl⟩;have X5:ah W1 w.heap.size 39 #[.int .i64 q.x,.int .i64 q.y]:=by rw [hW];exact ah.made rfl _ _
 have HB1:=avE (show Below w.heap.size w W1 by rw [hW];exact bA (bR w) _);rw [<- hW];clear hW X1 X2 X3 X4;have X1:=gq.out.keep HB1.out;have X2:=dh.out.keep HB1.out;have X3:=dW.out.keep HB1.out;have X4:=dI.out.keep HB1.out;obtain ⟨aS,aT,aU,-,-⟩:=X1.aQ;obtain ⟨aG,aI,aJ,-,-⟩:=X2.aQ;obtain ⟨bH,bU,bY,-,-⟩:=X3.aQ;obtain ⟨aV,aX,-⟩:=X4.iV;obtain ⟨bI,bJ,bV,-,-⟩:=X5.aQ
 cases d1
 case true =>
  go_wp2;go_ret;exact ⟨rfl,HB1.out⟩
 cases d2
 case true =>
  go_wp2;go_ret;exact ⟨rfl,HB1.out⟩
 cases d3
 case true =>
  go_wp2;go_ret;exact ⟨rfl,HB1.out⟩
 go_wp2_with fail;refine (HT.out _ HB1.out).mono ?_;rintro e w2 ⟨rfl,hb2⟩;have HB2:=avE (bT HB1.out hb2);clear hb2;go_wp2;go_ret;exact ⟨rfl,HB2.out⟩
structure mF (p:Pl):Prop where
 rU:p.nodes.length<=1000000
 jX:p.aj.length<=1000000
 via:∀ a∈p.aj,a.via.length<=1000000
theorem free_spec (v vp:Value) (p:Pl) (a:Ar) (A:Option Addr) (c:Nat) (P:List Pt) (i:Nat) (w:World) (h:bQ w v p) (hP:dM w vp P) (hm:mF p) (hi:i<a.via.length) (hl:P.length=a.via.length+2) :
  Calls Tryz.prog 94 #[v,jZ a (.slice A a.via.length c),vp,.int .i64 i] w fun e w'=>e=.returned (.bool (yE p a P i))/\Below w.heap.size w w':=by
 have oI:=avE (fun W (hW:Below w.heap.size w W)=>apx v (.slice A a.via.length c) p a W (h.mono hW) hm.jX);have hvl:=hm.via;have hnl:=hm.rU;have auE:=hm.jX;obtain ⟨_,_,_,al,rfl,hpa,⟨An,cn,rfl,hn1,hn2,RN⟩,⟨⟨Aa,ca,rfl,ha1,ha2,gV⟩,hV⟩,⟨Af,cf,rfl,hf1,hf2,-⟩⟩:=h;obtain ⟨AP,cP,rfl,hp1,hp2,xg⟩:=hP;have HRn:=avE RN;have jr:=avE gV;have KY:=avE hV;have apE:=avE hpa;have hal:al.length=p.aj.length:=by rw [hpa,avM]
 unfold maxLen at hp2;obtain ⟨b,o,hA1,hlb,c0,c1⟩:=xg.pt (show i<P.length by omega);obtain ⟨b',o',hA2,-,c2,c3⟩:=xg.pt (show i+1<P.length by omega);obtain ⟨b'',o'',hA3,-,c4,c5⟩:=xg.pt (show i+2<P.length by omega);subst hA1;injection hA2 with hA2;injection hA2 with q1 q2 _;subst q1 q2;injection hA3 with hA3;injection hA3 with q1 q2 _;subst q1 q2;obtain ⟨R,hR⟩:∃ R,yE p a P i=R:=⟨_,rfl⟩;rw [hR];unfold yE at hR;rw [avT,avG (show i<P.length by omega),avT,avG (show i+1<P.length by omega),avT,avG (show i+2<P.length by omega)] at hR;simp only [avU] at hR;generalize P[i]=t1 at *;generalize P[i+1]=t2 at *;generalize P[i+2]=t3 at *;have JD:=avE (fun W=>abr t1 W);have JE:=avE (fun W=>abr t2 W);have JF:=avE (fun W=>abr t3 W);have HTr:=avE (fun W=>apn t1 t2 t3 W);have HR:=avE hR;obtain ⟨blk,hblk⟩:∃ blk,BP t1 t2 t3=blk:=⟨_,rfl⟩;have zO:=avE (fun q g9 g10 g11 g12 W (h:OB W g9 g10 g11 g12 t1 t2 t3)=>show Calls Tryz.prog 149 #[aK q,.pointer (some ⟨g9,0,none⟩),.pointer (some ⟨g10,0,none⟩),.pointer (some ⟨g11,0,none⟩),.pointer (some ⟨g12,0,none⟩)] W fun e w'=>e=.returned (.bool (blk q))/\Below W.heap.size W w' from by rw [<- hblk];exact apD t1 t2 t3 q g9 g10 g11 g12 W h);rw [hblk] at HR;unfold aK at JD JE JF HTr zO;unfold jZ at oI ⊢;clear hblk xg RN gV hV hpa hm;generalize hnn:p.nodes.length=nn at *;generalize hnf:p.faces.length=nf at *;have EI:=avE hnn;generalize hvn:a.via.length=vn at *;have qL:=avE hal;have k0:IntKind.i64.wrap ((i:Int)+1)=(i:Int)+1:=avS _ Pe;have k1:IntKind.i64.wrap ((i:Int)+2)=(i:Int)+2:=avS _ Pe;obtain ⟨np,hnp⟩:∃ np,P.length=np:=⟨_,rfl⟩;have l0:0<=(i:Int):=by omega
 have l1:(i:Int)<np:=by omega
 have l2:(i:Int)+1<np:=by omega
 have l3:(i:Int)+2<np:=by omega
 have l4:0<=(i:Int)+1:=by omega
 have l5:0<=(i:Int)+2:=by omega
 have l6:((i:Int)+2).toNat=i+2:=by omega
 rw [hnp];clear hnn hnf hvn hR hal hl hnp;go_enter Tryz.func94,Tryz.ntmps94;go_upto_region 1 with fail;obtain ⟨W1,hW⟩:∃ W:World,W=(w.alloc (.cells #[.slice An nn cn,.slice Aa al.length ca,.slice Af nf cf] 26)).alloc (.cells #[.int .i64 a.id,.int .i64 a.fr,.int .i64 a.dst,.slice A vn c,.int .i64 a.left,.int .i64 a.right] 50):=⟨_,rfl⟩;have X4:ah W1 w.heap.size 26 #[.slice An nn cn,.slice Aa al.length ca,.slice Af nf cf]:=by rw [hW];exact (ah.made rfl _ _).alloc _
 have X5:ah W1 (w.heap.size+1) 50 #[.int .i64 a.id,.int .i64 a.fr,.int .i64 a.dst,.slice A vn c,.int .i64 a.left,.int .i64 a.right]:=by rw [hW];exact ah.made ars _ _
 have HB1:=avE (show Below w.heap.size w W1 by rw [hW];exact bA (bA (bR w) _) _);rw [<- hW];clear hW;have dI:=avE X4;have dF:=avE X5;replace c0:=kF HB1.out c0;replace c1:=kF HB1.out c1;replace c2:=kF HB1.out c2;replace c3:=kF HB1.out c3;replace c4:=kF HB1.out c4;replace c5:=kF HB1.out c5;have N9:b<W1.heap.size:=awf hlb HB1.out.size;clear X4 X5;go_step3;go_upto_region 1 with fail;go_cut [9,10,11] (fun u1 u2 u3 wx=>∃ g9 g10 g11,u1=.pointer (some ⟨g9,0,none⟩)/\u2=.pointer (some ⟨g10,0,none⟩)/\u3=.pointer (some ⟨g11,0,none⟩)/\ah wx g9 39 #[.int .i64 t1.x,.int .i64 t1.y]/\ah wx g10 39 #[.int .i64 t2.x,.int .i64 t2.y]/\ah wx g11 39 #[.int .i64 t3.x,.int .i64 t3.y]/\Below W1.heap.size W1 wx)
 case first =>
  refine apy (fM (W1.heap.size) W1) (.run 14 0 0 (.three 14 32767 (.two 15 65535 (.call 16 131071 (.call 17 262143 (.call 18 524287 (.call 19 1048575 (.done))))) 16 98303 (.call 15 131071 (.call 17 262143 (.call 18 524287 (.call 19 1048575 (.done)))))) 15 49151 (.two 14 65535 (.call 16 131071 (.call 17 262143 (.call 18 524287 (.call 19 1048575 (.done))))) 16 114687 (.call 14 131071 (.call 17 262143 (.call 18 524287 (.call 19 1048575 (.done)))))) 16 81919 (.two 14 98303 (.call 15 131071 (.call 17 262143 (.call 18 524287 (.call 19 1048575 (.done))))) 15 114687 (.call 14 131071 (.call 17 262143 (.call 18 524287 (.call 19 1048575 (.done)))))))) atF (Below.drew (Below.refl _ _)) atF atF (Nat.le_of_ble_eq_true atF) ?_;intro bZ QR aB aH hS
  iterate 14
   apply apC;exact aB;exact rfl;exact hS;exact rfl
   · intro _ hqc;go_simp;try rfl
   try simp only [pu]
  refine apA (i:=14) (j:=15) (k:=16) (eP aB rfl) (eP aB rfl) (eP aB rfl) (fun K hK=>?_) (fun K hK=>?_) (fun K hK=>?_)
  ·have ak:=avE hS;clear hS;refine fK (fJ rfl) ?_;go_simp;have Wp:Below (W1.heap.size) W1 (W1.drew):=ak.out;have Gu:W1.heap.size<=(W1.drew).heap.size:=avZ Pe (show Below (W1.heap.size) W1 (W1.drew) from ak.out).size;refine hK.out _ _ (fE Pe ak.out _) (fun hS=>?_);clear hK K ak
   try replace XA:=XA.alloc (.cells #[.int .i64 0,.int .i64 0] 39)
   try replace XB:=XB.alloc (.cells #[.int .i64 0,.int .i64 0] 39)
   try replace XC:=XC.alloc (.cells #[.int .i64 0,.int .i64 0] 39)
   have XA:=ah.new (W1.drew) 39 #[.int .i64 0,.int .i64 0]
   try simp only [World.size_drew,World.size_alloc] at XA Gu
   try simp only [pu]
   refine abx (i:=15) (j:=16) (eP aB rfl) (eP aB rfl) (fun K hK=>?_) (fun K hK=>?_)
   ·have ak:=avE hS;clear hS;refine fK (fJ rfl) ?_;go_simp;have Wq:Below (W1.heap.size) W1 ((W1.alloc (.cells #[.int .i64 0,.int .i64 0] 39)).drew):=ak.out;have Gv:W1.heap.size<=((W1.alloc (.cells #[.int .i64 0,.int .i64 0] 39)).drew).heap.size:=avZ Pe (show Below (W1.heap.size) W1 ((W1.alloc (.cells #[.int .i64 0,.int .i64 0] 39)).drew) from ak.out).size;refine hK.out _ _ (fE Pe ak.out _) (fun hS=>?_);clear hK K ak
    try replace XA:=XA.alloc (.cells #[.int .i64 0,.int .i64 0] 39)
    try replace XB:=XB.alloc (.cells #[.int .i64 0,.int .i64 0] 39)
    try replace XC:=XC.alloc (.cells #[.int .i64 0,.int .i64 0] 39)
    have XB:=ah.new ((W1.alloc (.cells #[.int .i64 0,.int .i64 0] 39)).drew) 39 #[.int .i64 0,.int .i64 0]
    try simp only [World.size_drew,World.size_alloc] at XB Gv
    try simp only [pu]
    refine nT (i:=16) (eP aB rfl) (fun K hK=>?_);have ak:=avE hS;clear hS;refine fK (fJ rfl) ?_;go_simp;have Ws:Below (W1.heap.size) W1 (((W1.alloc (.cells #[.int .i64 0,.int .i64 0] 39)).alloc (.cells #[.int .i64 0,.int .i64 0] 39)).drew):=ak.out;have Gw:W1.heap.size<=(((W1.alloc (.cells #[.int .i64 0,.int .i64 0] 39)).alloc (.cells #[.int .i64 0,.int .i64 0] 39)).drew).heap.size:=avZ Pe (show Below (W1.heap.size) W1 (((W1.alloc (.cells #[.int .i64 0,.int .i64 0] 39)).alloc (.cells #[.int .i64 0,.int .i64 0] 39)).drew) from ak.out).size;refine hK.out _ _ (fE Pe ak.out _) (fun hS=>?_);clear hK K ak
    try replace XA:=XA.alloc (.cells #[.int .i64 0,.int .i64 0] 39)
    try replace XB:=XB.alloc (.cells #[.int .i64 0,.int .i64 0] 39)
    try replace XC:=XC.alloc (.cells #[.int .i64 0,.int .i64 0] 39)
    have XC:=ah.new (((W1.alloc (.cells #[.int .i64 0,.int .i64 0] 39)).alloc (.cells #[.int .i64 0,.int .i64 0] 39)).drew) 39 #[.int .i64 0,.int .i64 0]
    try simp only [World.size_drew,World.size_alloc] at XC Gw
    try simp only [pu]
    refine nT (i:=17) (eP aB rfl) (fun K hK=>?_);have ak:=avE hS;clear hS;refine fK (fJ rfl) ?_;obtain ⟨RP,RQ,RS,RU,RV⟩:=XA.aQ;obtain ⟨LJ,LK,LM,LP,LQ⟩:=XB.aQ;obtain ⟨RX,RY,RZ,Si,Sj⟩:=XC.aQ;go_simp;refine hK.out _ _ (by unfold fM;have h:Below _ _ _:=ak.out;repeat (first | with_reducible assumption | with_reducible exact Below.refl _ _ | with_reducible refine jv ?_ arS _ | with_reducible refine Below.drew ?_ | with_reducible refine fE Pe ?_ _ | exact h)) ?_;intro hS;clear hK K ak
    try simp only [pu]
    refine nT (i:=18) (eP aB rfl) (fun K hK=>?_);have ak:=avE hS;clear hS;refine fK (fJ rfl) ?_;go_simp;refine hK.out _ _ (by unfold fM;have h:Below _ _ _:=ak.out;repeat (first | with_reducible assumption | with_reducible exact Below.refl _ _ | with_reducible refine jv ?_ arS _ | with_reducible refine Below.drew ?_ | with_reducible refine fE Pe ?_ _ | exact h)) ?_;intro hS;clear hK K ak
    try simp only [pu]
    refine nT (i:=19) (eP aB rfl) (fun K hK=>?_);have ak:=avE hS;clear hS;refine fK (fJ rfl) ?_;go_simp;refine hK.out _ _ (by unfold fM;have h:Below _ _ _:=ak.out;repeat (first | with_reducible assumption | with_reducible exact Below.refl _ _ | with_reducible refine jv ?_ arS _ | with_reducible refine Below.drew ?_ | with_reducible refine fE Pe ?_ _ | exact h)) ?_;intro hS;clear hK K ak
    try simp only [pu]
    refine OA ?_;refine aH.down _ _ ?_;have hB:Below (W1.heap.size) W1 _:=hS;clear hS aH aB;go_wp2;go_meet
    case rel => exact ⟨_,_,_,rfl,rfl,rfl,alo,alo,alo,hB⟩
   ·have ak:=avE hS;clear hS;refine fK (fJ rfl) ?_;go_simp;have Ws:Below (W1.heap.size) W1 ((W1.alloc (.cells #[.int .i64 0,.int .i64 0] 39)).drew):=ak.out;have Gw:W1.heap.size<=((W1.alloc (.cells #[.int .i64 0,.int .i64 0] 39)).drew).heap.size:=avZ Pe (show Below (W1.heap.size) W1 ((W1.alloc (.cells #[.int .i64 0,.int .i64 0] 39)).drew) from ak.out).size;refine hK.out _ _ (fE Pe ak.out _) (fun hS=>?_);clear hK K ak
    try replace XA:=XA.alloc (.cells #[.int .i64 0,.int .i64 0] 39)
    try replace XB:=XB.alloc (.cells #[.int .i64 0,.int .i64 0] 39)
    try replace XC:=XC.alloc (.cells #[.int .i64 0,.int .i64 0] 39)
    have XC:=ah.new ((W1.alloc (.cells #[.int .i64 0,.int .i64 0] 39)).drew) 39 #[.int .i64 0,.int .i64 0]
    try simp only [World.size_drew,World.size_alloc] at XC Gw
    try simp only [pu]
    refine nT (i:=15) (eP aB rfl) (fun K hK=>?_);have ak:=avE hS;clear hS;refine fK (fJ rfl) ?_;go_simp;have Wq:Below (W1.heap.size) W1 (((W1.alloc (.cells #[.int .i64 0,.int .i64 0] 39)).alloc (.cells #[.int .i64 0,.int .i64 0] 39)).drew):=ak.out;have Gv:W1.heap.size<=(((W1.alloc (.cells #[.int .i64 0,.int .i64 0] 39)).alloc (.cells #[.int .i64 0,.int .i64 0] 39)).drew).heap.size:=avZ Pe (show Below (W1.heap.size) W1 (((W1.alloc (.cells #[.int .i64 0,.int .i64 0] 39)).alloc (.cells #[.int .i64 0,.int .i64 0] 39)).drew) from ak.out).size;refine hK.out _ _ (fE Pe ak.out _) (fun hS=>?_);clear hK K ak
    try replace XA:=XA.alloc (.cells #[.int .i64 0,.int .i64 0] 39)
    try replace XB:=XB.alloc (.cells #[.int .i64 0,.int .i64 0] 39)
    try replace XC:=XC.alloc (.cells #[.int .i64 0,.int .i64 0] 39)
    have XB:=ah.new (((W1.alloc (.cells #[.int .i64 0,.int .i64 0] 39)).alloc (.cells #[.int .i64 0,.int .i64 0] 39)).drew) 39 #[.int .i64 0,.int .i64 0]
    try simp only [World.size_drew,World.size_alloc] at XB Gv
    try simp only [pu]
    refine nT (i:=17) (eP aB rfl) (fun K hK=>?_);have ak:=avE hS;clear hS;refine fK (fJ rfl) ?_;obtain ⟨RP,RQ,RS,RU,RV⟩:=XA.aQ;obtain ⟨LJ,LK,LM,LP,LQ⟩:=XB.aQ;obtain ⟨RX,RY,RZ,Si,Sj⟩:=XC.aQ;go_simp;refine hK.out _ _ (by unfold fM;have h:Below _ _ _:=ak.out;repeat (first | with_reducible assumption | with_reducible exact Below.refl _ _ | with_reducible refine jv ?_ arS _ | with_reducible refine Below.drew ?_ | with_reducible refine fE Pe ?_ _ | exact h)) ?_;intro hS;clear hK K ak
    try simp only [pu]
    refine nT (i:=18) (eP aB rfl) (fun K hK=>?_);have ak:=avE hS;clear hS;refine fK (fJ rfl) ?_;go_simp;refine hK.out _ _ (by unfold fM;have h:Below _ _ _:=ak.out;repeat (first | with_reducible assumption | with_reducible exact Below.refl _ _ | with_reducible refine jv ?_ arS _ | with_reducible refine Below.drew ?_ | with_reducible refine fE Pe ?_ _ | exact h)) ?_;intro hS;clear hK K ak
    try simp only [pu]
    refine nT (i:=19) (eP aB rfl) (fun K hK=>?_);have ak:=avE hS;clear hS;refine fK (fJ rfl) ?_;go_simp;refine hK.out _ _ (by unfold fM;have h:Below _ _ _:=ak.out;repeat (first | with_reducible assumption | with_reducible exact Below.refl _ _ | with_reducible refine jv ?_ arS _ | with_reducible refine Below.drew ?_ | with_reducible refine fE Pe ?_ _ | exact h)) ?_;intro hS;clear hK K ak
    try simp only [pu]
    refine OA ?_;refine aH.down _ _ ?_;have hB:Below (W1.heap.size) W1 _:=hS;clear hS aH aB;go_wp2;go_meet
    case rel => exact ⟨_,_,_,rfl,rfl,rfl,alo,alo,alo,hB⟩
  ·have ak:=avE hS;clear hS;refine fK (fJ rfl) ?_;go_simp;have Wq:Below (W1.heap.size) W1 (W1.drew):=ak.out;have Gv:W1.heap.size<=(W1.drew).heap.size:=avZ Pe (show Below (W1.heap.size) W1 (W1.drew) from ak.out).size;refine hK.out _ _ (fE Pe ak.out _) (fun hS=>?_);clear hK K ak
   try replace XA:=XA.alloc (.cells #[.int .i64 0,.int .i64 0] 39)
   try replace XB:=XB.alloc (.cells #[.int .i64 0,.int .i64 0] 39)
   try replace XC:=XC.alloc (.cells #[.int .i64 0,.int .i64 0] 39)
   have XB:=ah.new (W1.drew) 39 #[.int .i64 0,.int .i64 0]
   try simp only [World.size_drew,World.size_alloc] at XB Gv
   try simp only [pu]
   refine abx (i:=14) (j:=16) (eP aB rfl) (eP aB rfl) (fun K hK=>?_) (fun K hK=>?_)
   ·have ak:=avE hS;clear hS;refine fK (fJ rfl) ?_;go_simp;have Wp:Below (W1.heap.size) W1 ((W1.alloc (.cells #[.int .i64 0,.int .i64 0] 39)).drew):=ak.out;have Gu:W1.heap.size<=((W1.alloc (.cells #[.int .i64 0,.int .i64 0] 39)).drew).heap.size:=avZ Pe (show Below (W1.heap.size) W1 ((W1.alloc (.cells #[.int .i64 0,.int .i64 0] 39)).drew) from ak.out).size;refine hK.out _ _ (fE Pe ak.out _) (fun hS=>?_);clear hK K ak
    try replace XA:=XA.alloc (.cells #[.int .i64 0,.int .i64 0] 39)
    try replace XB:=XB.alloc (.cells #[.int .i64 0,.int .i64 0] 39)
    try replace XC:=XC.alloc (.cells #[.int .i64 0,.int .i64 0] 39)
    have XA:=ah.new ((W1.alloc (.cells #[.int .i64 0,.int .i64 0] 39)).drew) 39 #[.int .i64 0,.int .i64 0]
    try simp only [World.size_drew,World.size_alloc] at XA Gu
    try simp only [pu]
    refine nT (i:=16) (eP aB rfl) (fun K hK=>?_);have ak:=avE hS;clear hS;refine fK (fJ rfl) ?_;go_simp;have Ws:Below (W1.heap.size) W1 (((W1.alloc (.cells #[.int .i64 0,.int .i64 0] 39)).alloc (.cells #[.int .i64 0,.int .i64 0] 39)).drew):=ak.out;have Gw:W1.heap.size<=(((W1.alloc (.cells #[.int .i64 0,.int .i64 0] 39)).alloc (.cells #[.int .i64 0,.int .i64 0] 39)).drew).heap.size:=avZ Pe (show Below (W1.heap.size) W1 (((W1.alloc (.cells #[.int .i64 0,.int .i64 0] 39)).alloc (.cells #[.int .i64 0,.int .i64 0] 39)).drew) from ak.out).size;refine hK.out _ _ (fE Pe ak.out _) (fun hS=>?_);clear hK K ak
    try replace XA:=XA.alloc (.cells #[.int .i64 0,.int .i64 0] 39)
    try replace XB:=XB.alloc (.cells #[.int .i64 0,.int .i64 0] 39)
    try replace XC:=XC.alloc (.cells #[.int .i64 0,.int .i64 0] 39)
    have XC:=ah.new (((W1.alloc (.cells #[.int .i64 0,.int .i64 0] 39)).alloc (.cells #[.int .i64 0,.int .i64 0] 39)).drew) 39 #[.int .i64 0,.int .i64 0]
    try simp only [World.size_drew,World.size_alloc] at XC Gw
    try simp only [pu]
    refine nT (i:=17) (eP aB rfl) (fun K hK=>?_);have ak:=avE hS;clear hS;refine fK (fJ rfl) ?_;obtain ⟨RP,RQ,RS,RU,RV⟩:=XA.aQ;obtain ⟨LJ,LK,LM,LP,LQ⟩:=XB.aQ;obtain ⟨RX,RY,RZ,Si,Sj⟩:=XC.aQ;go_simp;refine hK.out _ _ (by unfold fM;have h:Below _ _ _:=ak.out;repeat (first | with_reducible assumption | with_reducible exact Below.refl _ _ | with_reducible refine jv ?_ arS _ | with_reducible refine Below.drew ?_ | with_reducible refine fE Pe ?_ _ | exact h)) ?_;intro hS;clear hK K ak
    try simp only [pu]
    refine nT (i:=18) (eP aB rfl) (fun K hK=>?_);have ak:=avE hS;clear hS;refine fK (fJ rfl) ?_;go_simp;refine hK.out _ _ (by unfold fM;have h:Below _ _ _:=ak.out;repeat (first | with_reducible assumption | with_reducible exact Below.refl _ _ | with_reducible refine jv ?_ arS _ | with_reducible refine Below.drew ?_ | with_reducible refine fE Pe ?_ _ | exact h)) ?_;intro hS;clear hK K ak
    try simp only [pu]
    refine nT (i:=19) (eP aB rfl) (fun K hK=>?_);have ak:=avE hS;clear hS;refine fK (fJ rfl) ?_;go_simp;refine hK.out _ _ (by unfold fM;have h:Below _ _ _:=ak.out;repeat (first | with_reducible assumption | with_reducible exact Below.refl _ _ | with_reducible refine jv ?_ arS _ | with_reducible refine Below.drew ?_ | with_reducible refine fE Pe ?_ _ | exact h)) ?_;intro hS;clear hK K ak
    try simp only [pu]
    refine OA ?_;refine aH.down _ _ ?_;have hB:Below (W1.heap.size) W1 _:=hS;clear hS aH aB;go_wp2;go_meet
    case rel => exact ⟨_,_,_,rfl,rfl,rfl,alo,alo,alo,hB⟩
   ·have ak:=avE hS;clear hS;refine fK (fJ rfl) ?_;go_simp;have Ws:Below (W1.heap.size) W1 ((W1.alloc (.cells #[.int .i64 0,.int .i64 0] 39)).drew):=ak.out;have Gw:W1.heap.size<=((W1.alloc (.cells #[.int .i64 0,.int .i64 0] 39)).drew).heap.size:=avZ Pe (show Below (W1.heap.size) W1 ((W1.alloc (.cells #[.int .i64 0,.int .i64 0] 39)).drew) from ak.out).size;refine hK.out _ _ (fE Pe ak.out _) (fun hS=>?_);clear hK K ak
    try replace XA:=XA.alloc (.cells #[.int .i64 0,.int .i64 0] 39)
    try replace XB:=XB.alloc (.cells #[.int .i64 0,.int .i64 0] 39)
    try replace XC:=XC.alloc (.cells #[.int .i64 0,.int .i64 0] 39)
    have XC:=ah.new ((W1.alloc (.cells #[.int .i64 0,.int .i64 0] 39)).drew) 39 #[.int .i64 0,.int .i64 0]
    try simp only [World.size_drew,World.size_alloc] at XC Gw
    try simp only [pu]
    refine nT (i:=14) (eP aB rfl) (fun K hK=>?_);have ak:=avE hS;clear hS;refine fK (fJ rfl) ?_;go_simp;have Wp:Below (W1.heap.size) W1 (((W1.alloc (.cells #[.int .i64 0,.int .i64 0] 39)).alloc (.cells #[.int .i64 0,.int .i64 0] 39)).drew):=ak.out;have Gu:W1.heap.size<=(((W1.alloc (.cells #[.int .i64 0,.int .i64 0] 39)).alloc (.cells #[.int .i64 0,.int .i64 0] 39)).drew).heap.size:=avZ Pe (show Below (W1.heap.size) W1 (((W1.alloc (.cells #[.int .i64 0,.int .i64 0] 39)).alloc (.cells #[.int .i64 0,.int .i64 0] 39)).drew) from ak.out).size;refine hK.out _ _ (fE Pe ak.out _) (fun hS=>?_);clear hK K ak
    try replace XA:=XA.alloc (.cells #[.int .i64 0,.int .i64 0] 39)
    try replace XB:=XB.alloc (.cells #[.int .i64 0,.int .i64 0] 39)
    try replace XC:=XC.alloc (.cells #[.int .i64 0,.int .i64 0] 39)
    have XA:=ah.new (((W1.alloc (.cells #[.int .i64 0,.int .i64 0] 39)).alloc (.cells #[.int .i64 0,.int .i64 0] 39)).drew) 39 #[.int .i64 0,.int .i64 0]
    try simp only [World.size_drew,World.size_alloc] at XA Gu
    try simp only [pu]
    refine nT (i:=17) (eP aB rfl) (fun K hK=>?_);have ak:=avE hS;clear hS;refine fK (fJ rfl) ?_;obtain ⟨RP,RQ,RS,RU,RV⟩:=XA.aQ;obtain ⟨LJ,LK,LM,LP,LQ⟩:=XB.aQ;obtain ⟨RX,RY,RZ,Si,Sj⟩:=XC.aQ;go_simp;refine hK.out _ _ (by unfold fM;have h:Below _ _ _:=ak.out;repeat (first | with_reducible assumption | with_reducible exact Below.refl _ _ | with_reducible refine jv ?_ arS _ | with_reducible refine Below.drew ?_ | with_reducible refine fE Pe ?_ _ | exact h)) ?_;intro hS;clear hK K ak
    try simp only [pu]
    refine nT (i:=18) (eP aB rfl) (fun K hK=>?_);have ak:=avE hS;clear hS;refine fK (fJ rfl) ?_;go_simp;refine hK.out _ _ (by unfold fM;have h:Below _ _ _:=ak.out;repeat (first | with_reducible assumption | with_reducible exact Below.refl _ _ | with_reducible refine jv ?_ arS _ | with_reducible refine Below.drew ?_ | with_reducible refine fE Pe ?_ _ | exact h)) ?_;intro hS;clear hK K ak
    try simp only [pu]
    refine nT (i:=19) (eP aB rfl) (fun K hK=>?_);have ak:=avE hS;clear hS;refine fK (fJ rfl) ?_;go_simp;refine hK.out _ _ (by unfold fM;have h:Below _ _ _:=ak.out;repeat (first | with_reducible assumption | with_reducible exact Below.refl _ _ | with_reducible refine jv ?_ arS _ | with_reducible refine Below.drew ?_ | with_reducible refine fE Pe ?_ _ | exact h)) ?_;intro hS;clear hK K ak
    try simp only [pu]
    refine OA ?_;refine aH.down _ _ ?_;have hB:Below (W1.heap.size) W1 _:=hS;clear hS aH aB;go_wp2;go_meet
    case rel => exact ⟨_,_,_,rfl,rfl,rfl,alo,alo,alo,hB⟩
  ·have ak:=avE hS;clear hS;refine fK (fJ rfl) ?_;go_simp;have Ws:Below (W1.heap.size) W1 (W1.drew):=ak.out;have Gw:W1.heap.size<=(W1.drew).heap.size:=avZ Pe (show Below (W1.heap.size) W1 (W1.drew) from ak.out).size;refine hK.out _ _ (fE Pe ak.out _) (fun hS=>?_);clear hK K ak
   try replace XA:=XA.alloc (.cells #[.int .i64 0,.int .i64 0] 39)
   try replace XB:=XB.alloc (.cells #[.int .i64 0,.int .i64 0] 39)
   try replace XC:=XC.alloc (.cells #[.int .i64 0,.int .i64 0] 39)
   have XC:=ah.new (W1.drew) 39 #[.int .i64 0,.int .i64 0]
   try simp only [World.size_drew,World.size_alloc] at XC Gw
   try simp only [pu]
   refine abx (i:=14) (j:=15) (eP aB rfl) (eP aB rfl) (fun K hK=>?_) (fun K hK=>?_)
   ·have ak:=avE hS;clear hS;refine fK (fJ rfl) ?_;go_simp;have Wp:Below (W1.heap.size) W1 ((W1.alloc (.cells #[.int .i64 0,.int .i64 0] 39)).drew):=ak.out;have Gu:W1.heap.size<=((W1.alloc (.cells #[.int .i64 0,.int .i64 0] 39)).drew).heap.size:=avZ Pe (show Below (W1.heap.size) W1 ((W1.alloc (.cells #[.int .i64 0,.int .i64 0] 39)).drew) from ak.out).size;refine hK.out _ _ (fE Pe ak.out _) (fun hS=>?_);clear hK K ak
    try replace XA:=XA.alloc (.cells #[.int .i64 0,.int .i64 0] 39)
    try replace XB:=XB.alloc (.cells #[.int .i64 0,.int .i64 0] 39)
    try replace XC:=XC.alloc (.cells #[.int .i64 0,.int .i64 0] 39)
    have XA:=ah.new ((W1.alloc (.cells #[.int .i64 0,.int .i64 0] 39)).drew) 39 #[.int .i64 0,.int .i64 0]
    try simp only [World.size_drew,World.size_alloc] at XA Gu
    try simp only [pu]
    refine nT (i:=15) (eP aB rfl) (fun K hK=>?_);have ak:=avE hS;clear hS;refine fK (fJ rfl) ?_;go_simp;have Wq:Below (W1.heap.size) W1 (((W1.alloc (.cells #[.int .i64 0,.int .i64 0] 39)).alloc (.cells #[.int .i64 0,.int .i64 0] 39)).drew):=ak.out;have Gv:W1.heap.size<=(((W1.alloc (.cells #[.int .i64 0,.int .i64 0] 39)).alloc (.cells #[.int .i64 0,.int .i64 0] 39)).drew).heap.size:=avZ Pe (show Below (W1.heap.size) W1 (((W1.alloc (.cells #[.int .i64 0,.int .i64 0] 39)).alloc (.cells #[.int .i64 0,.int .i64 0] 39)).drew) from ak.out).size;refine hK.out _ _ (fE Pe ak.out _) (fun hS=>?_);clear hK K ak
    try replace XA:=XA.alloc (.cells #[.int .i64 0,.int .i64 0] 39)
    try replace XB:=XB.alloc (.cells #[.int .i64 0,.int .i64 0] 39)
    try replace XC:=XC.alloc (.cells #[.int .i64 0,.int .i64 0] 39)
    have XB:=ah.new (((W1.alloc (.cells #[.int .i64 0,.int .i64 0] 39)).alloc (.cells #[.int .i64 0,.int .i64 0] 39)).drew) 39 #[.int .i64 0,.int .i64 0]
    try simp only [World.size_drew,World.size_alloc] at XB Gv
    try simp only [pu]
    refine nT (i:=17) (eP aB rfl) (fun K hK=>?_);have ak:=avE hS;clear hS;refine fK (fJ rfl) ?_;obtain ⟨RP,RQ,RS,RU,RV⟩:=XA.aQ;obtain ⟨LJ,LK,LM,LP,LQ⟩:=XB.aQ;obtain ⟨RX,RY,RZ,Si,Sj⟩:=XC.aQ;go_simp;refine hK.out _ _ (by unfold fM;have h:Below _ _ _:=ak.out;repeat (first | with_reducible assumption | with_reducible exact Below.refl _ _ | with_reducible refine jv ?_ arS _ | with_reducible refine Below.drew ?_ | with_reducible refine fE Pe ?_ _ | exact h)) ?_;intro hS;clear hK K ak
    try simp only [pu]
    refine nT (i:=18) (eP aB rfl) (fun K hK=>?_);have ak:=avE hS;clear hS;refine fK (fJ rfl) ?_;go_simp;refine hK.out _ _ (by unfold fM;have h:Below _ _ _:=ak.out;repeat (first | with_reducible assumption | with_reducible exact Below.refl _ _ | with_reducible refine jv ?_ arS _ | with_reducible refine Below.drew ?_ | with_reducible refine fE Pe ?_ _ | exact h)) ?_;intro hS;clear hK K ak
    try simp only [pu]
    refine nT (i:=19) (eP aB rfl) (fun K hK=>?_);have ak:=avE hS;clear hS;refine fK (fJ rfl) ?_;go_simp;refine hK.out _ _ (by unfold fM;have h:Below _ _ _:=ak.out;repeat (first | with_reducible assumption | with_reducible exact Below.refl _ _ | with_reducible refine jv ?_ arS _ | with_reducible refine Below.drew ?_ | with_reducible refine fE Pe ?_ _ | exact h)) ?_;intro hS;clear hK K ak
    try simp only [pu]
    refine OA ?_;refine aH.down _ _ ?_;have hB:Below (W1.heap.size) W1 _:=hS;clear hS aH aB;go_wp2;go_meet
    case rel => exact ⟨_,_,_,rfl,rfl,rfl,alo,alo,alo,hB⟩
   ·have ak:=avE hS;clear hS;refine fK (fJ rfl) ?_;go_simp;have Wq:Below (W1.heap.size) W1 ((W1.alloc (.cells #[.int .i64 0,.int .i64 0] 39)).drew):=ak.out;have Gv:W1.heap.size<=((W1.alloc (.cells #[.int .i64 0,.int .i64 0] 39)).drew).heap.size:=avZ Pe (show Below (W1.heap.size) W1 ((W1.alloc (.cells #[.int .i64 0,.int .i64 0] 39)).drew) from ak.out).size;refine hK.out _ _ (fE Pe ak.out _) (fun hS=>?_);clear hK K ak
    try replace XA:=XA.alloc (.cells #[.int .i64 0,.int .i64 0] 39)
    try replace XB:=XB.alloc (.cells #[.int .i64 0,.int .i64 0] 39)
    try replace XC:=XC.alloc (.cells #[.int .i64 0,.int .i64 0] 39)
    have XB:=ah.new ((W1.alloc (.cells #[.int .i64 0,.int .i64 0] 39)).drew) 39 #[.int .i64 0,.int .i64 0]
    try simp only [World.size_drew,World.size_alloc] at XB Gv
    try simp only [pu]
    refine nT (i:=14) (eP aB rfl) (fun K hK=>?_);have ak:=avE hS;clear hS;refine fK (fJ rfl) ?_;go_simp;have Wp:Below (W1.heap.size) W1 (((W1.alloc (.cells #[.int .i64 0,.int .i64 0] 39)).alloc (.cells #[.int .i64 0,.int .i64 0] 39)).drew):=ak.out;have Gu:W1.heap.size<=(((W1.alloc (.cells #[.int .i64 0,.int .i64 0] 39)).alloc (.cells #[.int .i64 0,.int .i64 0] 39)).drew).heap.size:=avZ Pe (show Below (W1.heap.size) W1 (((W1.alloc (.cells #[.int .i64 0,.int .i64 0] 39)).alloc (.cells #[.int .i64 0,.int .i64 0] 39)).drew) from ak.out).size;refine hK.out _ _ (fE Pe ak.out _) (fun hS=>?_);clear hK K ak
    try replace XA:=XA.alloc (.cells #[.int .i64 0,.int .i64 0] 39)
    try replace XB:=XB.alloc (.cells #[.int .i64 0,.int .i64 0] 39)
    try replace XC:=XC.alloc (.cells #[.int .i64 0,.int .i64 0] 39)
    have XA:=ah.new (((W1.alloc (.cells #[.int .i64 0,.int .i64 0] 39)).alloc (.cells #[.int .i64 0,.int .i64 0] 39)).drew) 39 #[.int .i64 0,.int .i64 0]
    try simp only [World.size_drew,World.size_alloc] at XA Gu
    try simp only [pu]
    refine nT (i:=17) (eP aB rfl) (fun K hK=>?_);have ak:=avE hS;clear hS;refine fK (fJ rfl) ?_;obtain ⟨RP,RQ,RS,RU,RV⟩:=XA.aQ;obtain ⟨LJ,LK,LM,LP,LQ⟩:=XB.aQ;obtain ⟨RX,RY,RZ,Si,Sj⟩:=XC.aQ;go_simp;refine hK.out _ _ (by unfold fM;have h:Below _ _ _:=ak.out;repeat (first | with_reducible assumption | with_reducible exact Below.refl _ _ | with_reducible refine jv ?_ arS _ | with_reducible refine Below.drew ?_ | with_reducible refine fE Pe ?_ _ | exact h)) ?_;intro hS;clear hK K ak
    try simp only [pu]
    refine nT (i:=18) (eP aB rfl) (fun K hK=>?_);have ak:=avE hS;clear hS;refine fK (fJ rfl) ?_;go_simp;refine hK.out _ _ (by unfold fM;have h:Below _ _ _:=ak.out;repeat (first | with_reducible assumption | with_reducible exact Below.refl _ _ | with_reducible refine jv ?_ arS _ | with_reducible refine Below.drew ?_ | with_reducible refine fE Pe ?_ _ | exact h)) ?_;intro hS;clear hK K ak
    try simp only [pu]
    refine nT (i:=19) (eP aB rfl) (fun K hK=>?_);have ak:=avE hS;clear hS;refine fK (fJ rfl) ?_;go_simp;refine hK.out _ _ (by unfold fM;have h:Below _ _ _:=ak.out;repeat (first | with_reducible assumption | with_reducible exact Below.refl _ _ | with_reducible refine jv ?_ arS _ | with_reducible refine Below.drew ?_ | with_reducible refine fE Pe ?_ _ | exact h)) ?_;intro hS;clear hK K ak
    try simp only [pu]
    refine OA ?_;refine aH.down _ _ ?_;have hB:Below (W1.heap.size) W1 _:=hS;clear hS aH aB;go_wp2;go_meet
    case rel => exact ⟨_,_,_,rfl,rfl,rfl,alo,alo,alo,hB⟩
 case rest =>
 obtain ⟨g9,g10,g11,rfl,rfl,rfl,x9,x10,x11,hbc⟩:=hcut;obtain ⟨W2,hW⟩:∃ W:World,W=wc:=⟨_,rfl⟩;rw [<- hW] at x9 x10 x11 hbc ⊢;have HB2:=avE (bT HB1.out hbc);have kT:=avE (dI.out.keep hbc);have ED:=avE (dF.out.keep hbc);have oh:=avE x9;have wC:=avE x10;have LU:=avE x11;clear hW hbc c0 c1 c2 c3 c4 c5 N9 k0 k1 l0 l1 l2 l3 l4 l5 l6 dI dF HB1;have hR:=HR.out;clear HR;obtain ⟨Ib,Wu,x9b,-,-⟩:=x9.aQ;obtain ⟨CP,LV,x10b,-,-⟩:=x10.aQ;obtain ⟨LW,LX,x11b,-,-⟩:=x11.aQ;obtain ⟨v1,hv1⟩:∃ v,iP t1=v:=⟨_,rfl⟩;rw [hv1] at hR JD;clear hv1;go_upto_region 2 with fail;go_wp2_with fail;refine (JD.out _).mono ?_;rintro e w3 ⟨rfl,hb3⟩;have HB3:=avE hb3;clear hb3 x9 Ib Wu x9b x10 CP LV x10b x11 LW LX x11b JD
 cases v1
 case false =>
  rw [Bool.false_and] at hR;subst hR;go_wp2_with fail;rw [Exit.noGoto_ret];go_ret;exact ⟨rfl,bT HB2.out HB3.out⟩
 rw [Bool.true_and] at hR;obtain ⟨v2,hv2⟩:∃ v,iP t2=v:=⟨_,rfl⟩;rw [hv2] at hR JE;have x10:=wC.out.keep HB3.out;clear hv2
 try clear CP
 try clear LV
 try clear x10b
 obtain ⟨CP,LV,x10b,-,-⟩:=x10.aQ;go_wp2_with fail;refine (JE.out _).mono ?_;rintro e w4 ⟨rfl,hb4⟩;have HB4:=avE (bT HB3.out hb4);clear hb4 x10 CP LV x10b JE HB3
 cases v2
 case false =>
  rw [Bool.false_and] at hR;subst hR;go_wp2_with fail;rw [Exit.noGoto_ret];go_ret;exact ⟨rfl,bT HB2.out HB4.out⟩
 rw [Bool.true_and] at hR;obtain ⟨v3,hv3⟩:∃ v,iP t3=v:=⟨_,rfl⟩;rw [hv3] at hR JF;have x11:=LU.out.keep HB4.out;clear hv3
 try clear LW
 try clear LX
 try clear x11b
 obtain ⟨LW,LX,x11b,-,-⟩:=x11.aQ;go_wp2_with fail;refine (JF.out _).mono ?_;rintro e w5 ⟨rfl,hb5⟩;have bC:=avE (bT HB4.out hb5);clear hb5 x11 LW LX x11b JF HB4
 cases v3
 case false =>
  rw [Bool.false_and] at hR;subst hR;go_wp2_with fail;rw [Exit.noGoto_ret];go_ret;exact ⟨rfl,bT HB2.out bC.out⟩
 rw [Bool.true_and] at hR;have X5:=ED.out.keep bC.out;obtain ⟨bI,bJ,bV,jk,zx,IQ,IU,-,-,-,-,-,-⟩:=X5.gX;go_upto_region 4 with fail;obtain ⟨z1,hz1⟩:∃ z,(decide (a.fr=a.dst) && decide (vn<3))=z:=⟨_,rfl⟩;rw [hz1] at hR;go_cut [58] (fun u wx=>u=.bool z1/\wx=w5)
 case first =>
  cases e1:(a.fr == a.dst)
  case false =>
   have q1:=avE (show z1=false by rw [<- hz1,avV (by simpa using e1)];rfl);clear hz1 hR;go_wp2;go_meet
   case rel => exact ⟨by rw [q1.out],rfl⟩
  case true =>
   by_cases e2:(vn:Int)<3
   ·have q1:=avE (show z1=true by rw [<- hz1,avW (by simpa using e1),avW Pe];rfl);clear hz1 hR;go_wp2;go_meet
    case rel => exact ⟨by rw [q1.out],rfl⟩
   ·have q1:=avE (show z1=false by rw [<- hz1,avV (show ¬ vn<3 by omega),Bool.and_false]);clear hz1 hR;go_wp2;go_meet
    case rel => exact ⟨by rw [q1.out],rfl⟩
 case rest =>
 obtain ⟨rfl,hw⟩:=hcut;obtain ⟨W6,hW⟩:∃ W:World,W=wc:=⟨_,rfl⟩;rw [<- hW] at hw ⊢;subst hw;clear hW hz1 bI bJ bV jk zx IQ IU
 cases z1
 case true =>
  rw [Bool.not_true,Bool.false_and] at hR;subst hR;go_wp2_with fail;rw [Exit.noGoto_ret];go_ret;exact ⟨rfl,bT HB2.out bC.out⟩
 rw [Bool.not_false,Bool.true_and] at hR;have X4:=kT.out.keep bC.out;have Sm:=avE (bT HB2.out bC.out)
 try clear bI
 try clear bJ
 try clear bV
 try clear jk
 try clear zx
 try clear IQ
 try clear IU
 obtain ⟨bI,bJ,bV,jk,zx,IQ,IU,-,-,-,-,-,-⟩:=X5.gX;obtain ⟨aV,aX,bn,fA,-,-,-⟩:=X4.aF;obtain ⟨z2,hz2⟩:∃ z,(decide (vn=1) && Gt p a)=z:=⟨_,rfl⟩;rw [hz2] at hR;have fH:=avE hR;clear hR;go_upto_region 6 with fail;go_cut [67] (fun u wx=>u=.bool z2/\Below W6.heap.size W6 wx)
 case first =>
  by_cases e2:vn=1
  ·have q1:=avE (show Gt p a=z2 by rw [<- hz2,avW e2,Bool.true_and]);have e3:((vn:Int) == 1)=true:=by rw [beq_iff_eq];omega
   have HPw:=avE (oI.out W6 Sm.out);clear hz2 e2;go_wp2_with fail;refine HPw.out.mono ?_;rintro e w7 ⟨rfl,hb7⟩;go_wp2;go_meet
   case rel => exact ⟨by rw [q1.out],hb7⟩
  ·have q1:=avE (show z2=false by rw [<- hz2,avV e2];rfl);have e3:((vn:Int) == 1)=false:=by rw [beq_eq_false_iff_ne];omega
   clear hz2 e2;go_wp2;go_meet
   case rel => exact ⟨by rw [q1.out],bR W6⟩
 case rest =>
 obtain ⟨rfl,hbc⟩:=hcut;obtain ⟨W7,hW⟩:∃ W:World,W=wc:=⟨_,rfl⟩;rw [<- hW] at hbc ⊢;have gW:=avE (bT bC.out hbc);clear hW hz2 hbc X5 bI bJ bV jk zx IQ IU X4 aV aX bn fA bC Sm
 cases z2
 case true =>
  have hR:=fH.out;rw [Bool.not_true,Bool.false_and] at hR;subst hR;go_wp2_with fail;rw [Exit.noGoto_ret];go_ret;exact ⟨rfl,bT HB2.out gW.out⟩
 have hR:=fH.out;rw [Bool.not_false,Bool.true_and] at hR;have HR:=avE hR;clear hR fH oI ED;have x9:=oh.out.keep gW.out;have x10:=wC.out.keep gW.out;have x11:=LU.out.keep gW.out
 try clear Ib
 try clear Wu
 try clear x9b
 obtain ⟨Ib,Wu,x9b,-,-⟩:=x9.aQ
 try clear CP
 try clear LV
 try clear x10b
 obtain ⟨CP,LV,x10b,-,-⟩:=x10.aQ
 try clear LW
 try clear LX
 try clear x11b
 obtain ⟨LW,LX,x11b,-,-⟩:=x11.aQ;go_upto_region 8 with fail;go_wp2_with fail;refine (HTr.out _).mono ?_;rintro e w8 ⟨⟨g7,g8,g3,g4,g5,rfl,hT⟩,hb8⟩;have hst:=fun (a:Addr) (w:World)=>run_store Tryz.prog w a (.func (.func 211) #[] #[.pointer (some ⟨g7,0,none⟩),.pointer (some ⟨g8,0,none⟩),.pointer (some ⟨g3,0,none⟩),.pointer (some ⟨g4,0,none⟩),.pointer (some ⟨g5,0,none⟩)]) .plain rfl;have jl:=avE (bT gW.out hb8);have HT:=avE hT;clear hb8 hT x9 Ib Wu x9b x10 CP LV x10b x11 LW LX x11b HTr;go_upto_region 9 with fail;obtain ⟨g12,aby⟩:∃ g,w8.heap.size=g:=⟨_,rfl⟩;obtain ⟨W9,hW⟩:∃ W:World,W=w8.alloc (.cells #[.func (.func 211) #[] #[.pointer (some ⟨g7,0,none⟩),.pointer (some ⟨g8,0,none⟩),.pointer (some ⟨g3,0,none⟩),.pointer (some ⟨g4,0,none⟩),.pointer (some ⟨g5,0,none⟩)]] 43):=⟨_,rfl⟩;have LY:Below w8.heap.size w8 W9:=by rw [hW];exact bA (bR w8) _
 have HI9:=avE (show OB W9 g9 g10 g11 g12 t1 t2 t3 from ⟨oh.out.keep (bT jl.out LY),wC.out.keep (bT jl.out LY),LU.out.keep (bT jl.out LY),g7,g8,g3,g4,g5,by rw [hW,<- aby];exact ah.made rfl _ _,HT.out.keep LY⟩);have X4:=kT.out.keep (bT jl.out LY);have je:=avE (bT HB2.out (bT jl.out LY));have ahm:=avE X4;rw [<- hW,aby];clear hW aby hst LY oh wC LU HT jl gW HB2 kT
 try clear aV
 try clear aX
 try clear bn
 try clear fA
 obtain ⟨aV,aX,bn,fA,-,-,-⟩:=X4.aF;go_upto_block 0 with fail;clear X4 aV aX bn fA;go_wp2_with fail;go_loopw [76] (fun u wr=>∃ k:Nat,k<=nn/\u=.int .i64 k/\(∀ j (hj:j<p.nodes.length),j<k->blk p.nodes[j].pt=false)/\Below W9.heap.size W9 wr) (fun u _=>nn-(intOf u).toNat)
 case atStart => exact ⟨0,avK _,rfl,(fun j _ h=>by omega),bR W9⟩
 case round =>
  obtain ⟨k,hk,rfl,hno,hb⟩:=hrel;obtain ⟨wo,rfl⟩:∃ wo:World,wo=wr:=⟨_,rfl⟩;have Hb:=avE hb;have jL:=avE hno;clear hb hno;by_cases hlt:k<nn
  ·have hkp:k<p.nodes.length:=by rw [EI.out];exact hlt
   obtain ⟨b,o,rfl,hlb,c0,c1,c2⟩:=(HRn.out.mono (bT je.out Hb.out)).nd hkp;have HX:=avE (show p.nodes[k]=p.nodes[k] from rfl);have DN:=avE (fun W (hW:Below wo.heap.size wo W)=>zO.out p.nodes[k].pt g9 g10 g11 g12 W (HI9.out.keep (bT Hb.out hW)));obtain ⟨z,hz⟩:∃ z,blk p.nodes[k].pt=z:=⟨_,rfl⟩;rw [hz] at DN;have HZ:=avE hz;clear hz;have k1:(k:Int)<nn:=by omega
   have k2:0<=(k:Int):=by omega
   go_upto_region 13 with fail;obtain ⟨uZ,hW⟩:∃ W:World,W=wo.alloc (.cells #[.int .i64 p.nodes[k].id,.int .i64 p.nodes[k].pt.x,.int .i64 p.nodes[k].pt.y] 45):=⟨_,rfl⟩;have XN:ah uZ wo.heap.size 45 #[.int .i64 p.nodes[k].id,.int .i64 p.nodes[k].pt.x,.int .i64 p.nodes[k].pt.y]:=by rw [hW];exact ah.made rfl _ _
   have hA10:Below wo.heap.size wo uZ:=by rw [hW];exact bA (bR wo) _
   have Wv:=avE hA10;rw [<- hW];clear hW hA10 c0 c1 c2;obtain ⟨Wx,Wy,WA,WB,-,-,-⟩:=XN.aF;go_wp2_with fail;refine (DN.out _ Wv.out).mono ?_;rintro e Jc ⟨rfl,Jd⟩;have ahn:=avE (bT Hb.out (bT Wv.out Jd));clear Jd XN Wx Wy WA WB DN
   cases z
   case true =>
    have hf:R=false:=by
     rw [<- HR.out,show (p.nodes.any fun n=>blk n.pt)=true from awg.2 ⟨_,avF hkp,HZ.out⟩];rfl
    subst hf;go_wp2_with fail;rw [Exit.noGoto_ret];go_ret;exact ⟨rfl,bT je.out ahn.out⟩
   case false =>
    go_wp2;go_roundw
    case rel => exact ⟨k+1,by omega,by go_num,(fun j hj hjk=>if e:j<k then jL.out j hj e else by
     have:j=k:=by omega
     subst this;exact HZ.out),ahn.out⟩
    case measure => simp [intOf];omega
  ·obtain rfl:k=nn:=by omega
   have hany:(p.nodes.any fun n=>blk n.pt)=false:=by
    rw [<- Bool.not_eq_true,awg];rintro ⟨x,hx,e⟩;obtain ⟨j,hj,rfl⟩:=avI.1 hx;rw [jL.out j hj (by rw [EI.out] at hj;exact hj)] at e
    cases e
   have hR:=HR.out;rw [hany,Bool.not_false,Bool.true_and] at hR;have HR':=avE hR;have X4:=ahm.out.keep Hb.out;have iT:=avE (bT je.out Hb.out);have LZ:=avE (HI9.out.keep Hb.out);clear hany hR HR jL hlt;clear X4;go_wp2_with fail;go_step3;go_upto_region 17 with fail;have X4:=ahm.out.keep Hb.out
   try clear aV
   try clear aX
   try clear bn
   try clear fA
   obtain ⟨aV,aX,bn,fA,-,-,-⟩:=X4.aF;go_upto_block 2 with fail;clear X4 aV aX bn fA;go_cut [16] (fun u wx=>u=.bool (!(p.aj.any fun b=>b.via.any blk))/\Below wo.heap.size wo wx)
   case first =>
    go_wp2_with fail;go_loopw [16,88] (fun s u wr=>∃ m:Nat,m<=al.length/\u=.int .i64 m/\s=.bool true/\(∀ j (hj:j<p.aj.length),j<m->p.aj[j].via.any blk=false)/\Below wo.heap.size wo wr) (fun _ u _=>al.length-(intOf u).toNat)
    case atStart => exact ⟨0,avK _,rfl,rfl,(fun j _ h=>by omega),bR wo⟩
    case round =>
     obtain ⟨m,hm,rfl,rfl,hno,hb⟩:=hrel;obtain ⟨wm,rfl⟩:∃ wm:World,wm=wr:=⟨_,rfl⟩;have Hbm:=avE hb;have uT:=avE hno;clear hb hno;by_cases hml:m<al.length
     ·have hmp:m<p.aj.length:=by rw [<- qL.out];exact hml
      have hax:=avE (show p.aj[m]=al[m].1 by
       have e:p.aj[m]? = some al[m].1:=by rw [apE.out,List.getElem?_map,avG hml];rfl
       rw [avG hmp] at e;exact avP e)
      have hvm:=hvl _ (avF hmp);obtain ⟨b,o,rfl,hlb,c0,c1,c2,c3,c4,c5⟩:=(jr.out.mono (bT iT.out Hbm.out)).ar hml;obtain ⟨Av,cv,hva,-,-,hRv⟩:=KY.out m hml;rw [hva] at c3;rw [hax.out] at hvm;have Jk:=avE (fun (hf:p.aj[m].via.any blk=false) j (hj:j<p.aj.length) (hjm:j<m+1)=>if e:j<m then uT.out j hj e else show p.aj[j].via.any blk=false from by
       have:j=m:=by omega
       subst this;exact hf)
      have WC:=avE (fun (hf:p.aj[m].via.any blk=true)=>show (p.aj.any fun b=>b.via.any blk)=true from awg.2 ⟨_,avF hmp,hf⟩);rw [hax.out] at Jk WC;have HRv:=avE hRv;obtain ⟨y,hy⟩:∃ y,al[m]=y:=⟨_,rfl⟩;rw [hy] at c0 c1 c2 c3 c4 c5 hvm Jk WC HRv;obtain ⟨⟨lM,EJ,EK,V,EL,EM⟩,yv⟩:=y;simp only at c0 c1 c2 c3 c4 c5 hvm Jk WC HRv;have k1:(m:Int)<al.length:=by omega
      have k2:0<=(m:Int):=by omega
      clear hy hva hRv hax;go_upto_region 20 with fail;obtain ⟨uZ,hW⟩:∃ W:World,W=wm.alloc (.cells #[.int .i64 lM,.int .i64 EJ,.int .i64 EK,.slice Av V.length cv,.int .i64 EL,.int .i64 EM] 50):=⟨_,rfl⟩;have XN:ah uZ wm.heap.size 50 #[.int .i64 lM,.int .i64 EJ,.int .i64 EK,.slice Av V.length cv,.int .i64 EL,.int .i64 EM]:=by rw [hW];exact ah.made rfl _ _
      have Wv:=avE (show Below wm.heap.size wm uZ by rw [hW];exact bA (bR wm) _);rw [<- hW];clear hW c0 c1 c2 c3 c4 c5
      try clear Wx
      try clear Wy
      try clear WA
      try clear WB
      obtain ⟨Wx,Wy,WA,WB,XNd,XNe,XNf,-,-,-,-,-,-⟩:=XN.gX;go_upto_block 4 with fail;clear XN Wx Wy WA WB XNd XNe XNf k1 k2;go_wp2_with fail;go_loopw [16,95] (fun s u wr=>∃ j:Nat,j<=V.length/\u=.int .i64 j/\s=.bool true/\(∀ i (hi:i<V.length),i<j->blk V[i]=false)/\Below uZ.heap.size uZ wr) (fun _ u _=>V.length-(intOf u).toNat)
      case atStart => exact ⟨0,avK _,rfl,rfl,(fun j _ h=>by omega),bR uZ⟩
      case round =>
       obtain ⟨j,hj,rfl,rfl,hno,hb⟩:=hrel;obtain ⟨wj,rfl⟩:∃ wj:World,wj=wr:=⟨_,rfl⟩;have OC:=avE (bT Hbm.out (bT Wv.out hb));have L6:=avE hno;have apF:=avE hb;clear hb hno;by_cases hjl:j<V.length
       ·obtain ⟨bv,ov,rfl,hlv,d0,d1⟩:=HRv.out.pt hjl;replace d0:=kF (bT je.out (bT Hb.out OC.out)) d0;replace d1:=kF (bT je.out (bT Hb.out OC.out)) d1;have auF:bv<wj.heap.size:=awf hlv (bT je.out (bT Hb.out OC.out)).size;have DN:=avE (fun W (hW:Below wj.heap.size wj W)=>zO.out V[j] g9 g10 g11 g12 W (LZ.out.keep (bT OC.out hW)));obtain ⟨z,hz⟩:∃ z,blk V[j]=z:=⟨_,rfl⟩;rw [hz] at DN;have HZ:=avE hz;have k3:(j:Int)<V.length:=by omega
        have k4:0<=(j:Int):=by omega
        clear hz;obtain ⟨q,hq⟩:∃ q,V[j]=q:=⟨_,rfl⟩;rw [hq] at DN d0 d1;clear hq;go_upto_region 23 with fail;obtain ⟨W11,hW⟩:∃ W:World,W=wj.alloc (.cells #[.int .i64 q.x,.int .i64 q.y] 39):=⟨_,rfl⟩;have XP:ah W11 wj.heap.size 39 #[.int .i64 q.x,.int .i64 q.y]:=by rw [hW];exact ah.made rfl _ _
        have abz:=avE (show Below wj.heap.size wj W11 by rw [hW];exact bA (bR wj) _);rw [<- hW];clear hW d0 d1;obtain ⟨XPl,XPa,XPb,-,-⟩:=XP.aQ;go_wp2_with fail;refine (DN.out _ abz.out).mono ?_;rintro e w12 ⟨rfl,abA⟩;have apG:=avE (bT OC.out (bT abz.out abA));have apH:=avE (bT apF.out (bT abz.out abA));clear abA XP XPl XPa XPb DN
        cases z
        case true =>
         have hh:=avE (WC.out (awg.2 ⟨_,avF hjl,HZ.out⟩));go_wp2;go_meet
         case rel => exact ⟨by rw [hh.out];rfl,apG.out⟩
        case false =>
         go_wp2;go_roundw
         case rel => exact ⟨j+1,by omega,by go_num,rfl,(fun i hi hij=>if e:i<j then L6.out i hi e else by
          have:i=j:=by omega
          subst this;exact HZ.out),apH.out⟩
         case measure => simp [intOf];omega
       ·obtain rfl:j=V.length:=by omega
        have hany:V.any blk=false:=by
         rw [<- Bool.not_eq_true,awg];rintro ⟨x,hx,e⟩;obtain ⟨j,hj,rfl⟩:=avI.1 hx;rw [L6.out j hj hj] at e
         cases e
        have hs:=avE (Jk.out hany);clear hany;go_wp2;go_roundw
        case rel => exact ⟨m+1,by omega,by go_num,rfl,hs.out,OC.out⟩
        case measure => simp [intOf];omega
     ·obtain rfl:m=al.length:=by omega
      have hany:=avE (show (p.aj.any fun b=>b.via.any blk)=false by
       rw [<- Bool.not_eq_true,awg];rintro ⟨x,hx,e⟩;obtain ⟨j,hj,rfl⟩:=avI.1 hx;rw [uT.out j hj (by rw [qL.out];exact hj)] at e
       cases e)
      go_wp2;go_meet
      case rel => exact ⟨by rw [hany.out];rfl,Hbm.out⟩
   case rest =>
   obtain ⟨rfl,hbc⟩:=hcut;have HBc:=avE hbc;rw [HR'.out];clear hbc;go_wp2_with fail;rw [Exit.noGoto_ret];go_ret;exact ⟨rfl,bT iT.out HBc.out⟩
end Go.Proofs.YtialfdomhoojiaaGreat
