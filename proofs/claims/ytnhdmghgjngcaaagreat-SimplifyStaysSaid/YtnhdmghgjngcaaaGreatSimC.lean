import Derived.Deep.CutBlock
import Derived.WalkMore
import Derived.Test.YtnhdmghgjngcaaaGreatJ18
import Derived.Test.YtnhdmghgjngcaaaGreatJ19
import Derived.Test.YtnhdmghgjngcaaaGreatJ04
import Derived.Test.YtnhdmghgjngcaaaGreatGB
set_option linter.unusedSimpArgs false
set_option linter.unusedVariables false
namespace Go.Proofs.YtnhdmghgjngcaaaGreat
open Go.RowKit

structure BlkI (W:World) (g9 g10 g11 g12:Nat) (a b c:Pt):Prop where
 pa:Blk W g9 36 #[.int .i64 a.x,.int .i64 a.y]
 pb:Blk W g10 36 #[.int .i64 b.x,.int .i64 b.y]
 pc:Blk W g11 36 #[.int .i64 c.x,.int .i64 c.y]
 fn:∃ g7 g8 g3 g4 g5,Blk W g12 92 #[.func (.func 71) #[] #[.pointer (some ⟨g7,0,none⟩),.pointer (some ⟨g8,0,none⟩),.pointer (some ⟨g3,0,none⟩),.pointer (some ⟨g4,0,none⟩),.pointer (some ⟨g5,0,none⟩)]]∧TriI W g7 g8 g3 g4 g5 a b c
theorem BlkI.keep {W W':World} {g9 g10 g11 g12:Nat} {a b c:Pt} (h:BlkI W g9 g10 g11 g12 a b c) (hb:Below W.heap.size W W'):BlkI W' g9 g10 g11 g12 a b c:=by
 obtain ⟨h1,h2,h3,g7,g8,g3,g4,g5,h4,h5⟩:=h
 exact ⟨h1.keep hb,h2.keep hb,h3.keep hb,g7,g8,g3,g4,g5,h4.keep hb,h5.keep hb⟩

set_option maxRecDepth 100000 in
set_option maxHeartbeats 4000000 in
theorem fr1_spec (a b c q:Pt) (g9 g10 g11 g12:Nat) (w:World) (h:BlkI w g9 g10 g11 g12 a b c) :
  Calls Tryz.prog 51 #[ptV q,.pointer (some ⟨g9,0,none⟩),.pointer (some ⟨g10,0,none⟩),.pointer (some ⟨g11,0,none⟩),.pointer (some ⟨g12,0,none⟩)] w fun e w'=>e=.returned (.bool (blkS a b c q))∧Below w.heap.size w w':=by
 obtain ⟨X1,X2,X3,g7,g8,g3,g4,g5,X4,hT⟩:=h
 have HT:=Lib.hid (fun W (hW:Below w.heap.size w W)=>tri1_spec a b c q g7 g8 g3 g4 g5 W (hT.keep hW))
 obtain ⟨z,hz⟩:∃ z,triS a b c q=z:=⟨_,rfl⟩
 unfold blkS
 rw [hz] at HT ⊢
 have hE1:=run_neq_pt q a;have hE2:=run_neq_pt q b;have hE3:=run_neq_pt q c
 unfold ptV at HT ⊢
 obtain ⟨d1,hd1⟩:∃ d,decide (q=a)=d:=⟨_,rfl⟩
 obtain ⟨d2,hd2⟩:∃ d,decide (q=b)=d:=⟨_,rfl⟩
 obtain ⟨d3,hd3⟩:∃ d,decide (q=c)=d:=⟨_,rfl⟩
 have n1:decide (q≠a) = !d1:=by rw [← hd1];simp
 have n2:decide (q≠b) = !d2:=by rw [← hd2];simp
 have n3:decide (q≠c) = !d3:=by rw [← hd3];simp
 rw [n1,n2,n3]
 rw [hd1] at hE1
 rw [hd2] at hE2
 rw [hd3] at hE3
 clear hT hz hd1 hd2 hd3 n1 n2 n3
 have HX1:=Lib.hid X1;have HX2:=Lib.hid X2;have HX3:=Lib.hid X3;have HX4:=Lib.hid X4
 go_enter Tryz.func51,Tryz.ntmps51
 go_upto_region 1 with fail
 obtain ⟨W1,hW⟩:∃ W:World,W=w.alloc (.cells #[.int .i64 q.x,.int .i64 q.y] 36):=⟨_,rfl⟩
 have X5:Blk W1 w.heap.size 36 #[.int .i64 q.x,.int .i64 q.y]:=by rw [hW];exact Blk.made rfl _ _
 have HB1:=Lib.hid (show Below w.heap.size w W1 by rw [hW];exact bA (bR w) _)
 rw [← hW]
 clear hW X1 X2 X3 X4
 have X1:=HX1.out.keep HB1.out;have X2:=HX2.out.keep HB1.out;have X3:=HX3.out.keep HB1.out;have X4:=HX4.out.keep HB1.out
 obtain ⟨X1l,X1a,X1b,-,-⟩:=X1.facts2
 obtain ⟨X2l,X2a,X2b,-,-⟩:=X2.facts2
 obtain ⟨X3l,X3a,X3b,-,-⟩:=X3.facts2
 obtain ⟨X4l,X4a,-⟩:=X4.facts1
 obtain ⟨X5l,X5a,X5b,-,-⟩:=X5.facts2
 cases d1
 case true =>
  go_wp2_with fail
  go_ret
  exact ⟨rfl,HB1.out⟩
 cases d2
 case true =>
  go_wp2_with fail
  go_ret
  exact ⟨rfl,HB1.out⟩
 cases d3
 case true =>
  go_wp2_with fail
  go_ret
  exact ⟨rfl,HB1.out⟩
 go_wp2_with fail
 refine (HT.out _ HB1.out).mono ?_
 rintro e w2 ⟨rfl,hb2⟩
 have HB2:=Lib.hid (bT HB1.out hb2)
 clear hb2
 go_wp2_with fail
 go_ret
 exact ⟨rfl,HB2.out⟩

structure Mod34 (p:Pl):Prop where
 nds:p.nodes.length≤1000000
 ars:p.arcs.length≤1000000
 via:∀ a∈p.arcs,a.via.length≤1000000

set_option maxRecDepth 100000 in
set_option maxHeartbeats 8000000 in
theorem free_spec (v vp:Value) (p:Pl) (a:Ar) (A:Option Addr) (c:Nat) (P:List Pt) (i:Nat) (w:World) (h:PlV w v p) (hP:Pts w vp P) (hm:Mod34 p) (hi:i<a.via.length) (hl:P.length=a.via.length+2) :
  Calls Tryz.prog 28 #[v,arV a (.slice A a.via.length c),vp,.int .i64 i] w fun e w'=>e=.returned (.bool (freeU p a P i))∧Below w.heap.size w w':=by
 have HPa:=Lib.hid (fun W (hW:Below w.heap.size w W)=>Parallel_spec v (.slice A a.via.length c) p a W (h.mono hW) hm.ars)
 have hvl:=hm.via
 have hnl:=hm.nds;have hal0:=hm.ars
 obtain ⟨_,_,_,al,rfl,hpa,⟨An,cn,rfl,hn1,hn2,hRn⟩,⟨⟨Aa,ca,rfl,ha1,ha2,hRa⟩,hV⟩,⟨Af,cf,rfl,hf1,hf2,-⟩⟩:=h
 obtain ⟨AP,cP,rfl,hp1,hp2,hRp⟩:=hP
 have HRn:=Lib.hid hRn;have HRa:=Lib.hid hRa;have HVi:=Lib.hid hV;have HPa':=Lib.hid hpa
 have hal:al.length=p.arcs.length:=by rw [hpa,List.length_map]
 unfold maxLen at hp2
 obtain ⟨b,o,hA1,hlb,c0,c1⟩:=hRp.pt (show i<P.length by omega)
 obtain ⟨b',o',hA2,-,c2,c3⟩:=hRp.pt (show i+1<P.length by omega)
 obtain ⟨b'',o'',hA3,-,c4,c5⟩:=hRp.pt (show i+2<P.length by omega)
 subst hA1
 injection hA2 with hA2
 injection hA2 with q1 q2 _
 subst q1 q2
 injection hA3 with hA3
 injection hA3 with q1 q2 _
 subst q1 q2
 obtain ⟨R,hR⟩:∃ R,freeU p a P i=R:=⟨_,rfl⟩
 rw [hR]
 unfold freeU at hR
 rw [List.getD_eq_getElem?_getD,List.getElem?_eq_getElem (show i<P.length by omega),List.getD_eq_getElem?_getD,List.getElem?_eq_getElem (show i+1<P.length by omega),List.getD_eq_getElem?_getD,List.getElem?_eq_getElem (show i+2<P.length by omega)] at hR
 simp only [Option.getD_some] at hR
 generalize P[i]=t1 at *
 generalize P[i+1]=t2 at *
 generalize P[i+2]=t3 at *
 have HV1:=Lib.hid (fun W=>SValid_spec t1 W);have HV2:=Lib.hid (fun W=>SValid_spec t2 W);have HV3:=Lib.hid (fun W=>SValid_spec t3 W)
 have HTr:=Lib.hid (fun W=>Triangle_spec t1 t2 t3 W)
 have HR:=Lib.hid hR
 obtain ⟨blk,hblk⟩:∃ blk,blkS t1 t2 t3=blk:=⟨_,rfl⟩
 have HFr:=Lib.hid (fun q g9 g10 g11 g12 W (h:BlkI W g9 g10 g11 g12 t1 t2 t3)=>show Calls Tryz.prog 51 #[ptV q,.pointer (some ⟨g9,0,none⟩),.pointer (some ⟨g10,0,none⟩),.pointer (some ⟨g11,0,none⟩),.pointer (some ⟨g12,0,none⟩)] W fun e w'=>e=.returned (.bool (blk q))∧Below W.heap.size W w' from by rw [← hblk];exact fr1_spec t1 t2 t3 q g9 g10 g11 g12 W h)
 rw [hblk] at HR
 unfold ptV at HV1 HV2 HV3 HTr HFr
 unfold arV at HPa ⊢
 clear hblk hRp hRn hRa hV hpa hm
 generalize hnn:p.nodes.length=nn at *
 generalize hnf:p.faces.length=nf at *
 have HNn:=Lib.hid hnn
 generalize hvn:a.via.length=vn at *
 have HAl:=Lib.hid hal
 have k0:IntKind.i64.wrap ((i:Int)+1)=(i:Int)+1:=IntWalk.i64_in _ (by omega)
 have k1:IntKind.i64.wrap ((i:Int)+2)=(i:Int)+2:=IntWalk.i64_in _ (by omega)
 obtain ⟨np,hnp⟩:∃ np,P.length=np:=⟨_,rfl⟩
 have l0:0≤(i:Int):=by omega
 have l1:(i:Int)<np:=by omega
 have l2:(i:Int)+1<np:=by omega
 have l3:(i:Int)+2<np:=by omega
 have l4:0≤(i:Int)+1:=by omega
 have l5:0≤(i:Int)+2:=by omega
 have l6:((i:Int)+2).toNat=i+2:=by omega
 rw [hnp]
 clear hnn hnf hvn hR hal hl hnp
 go_enter Tryz.func28,Tryz.ntmps28
 go_upto_region 1 with fail
 obtain ⟨W1,hW⟩:∃ W:World,W=(w.alloc (.cells #[.slice An nn cn,.slice Aa al.length ca,.slice Af nf cf] 26)).alloc (.cells #[.int .i64 a.id,.int .i64 a.fr,.int .i64 a.dst,.slice A vn c,.int .i64 a.left,.int .i64 a.right] 41):=⟨_,rfl⟩
 have X4:Blk W1 w.heap.size 26 #[.slice An nn cn,.slice Aa al.length ca,.slice Af nf cf]:=by rw [hW];exact (Blk.made rfl _ _).alloc _
 have X5:Blk W1 (w.heap.size+1) 41 #[.int .i64 a.id,.int .i64 a.fr,.int .i64 a.dst,.slice A vn c,.int .i64 a.left,.int .i64 a.right]:=by rw [hW];exact Blk.made (by simp) _ _
 have HB1:=Lib.hid (show Below w.heap.size w W1 by rw [hW];exact bA (bA (bR w) _) _)
 rw [← hW]
 clear hW
 have HX4:=Lib.hid X4;have HX5:=Lib.hid X5
 replace c0:=keepc HB1.out c0;replace c1:=keepc HB1.out c1;replace c2:=keepc HB1.out c2;replace c3:=keepc HB1.out c3;replace c4:=keepc HB1.out c4;replace c5:=keepc HB1.out c5
 have hlb1:b<W1.heap.size:=Nat.lt_of_lt_of_le hlb HB1.out.size
 clear X4 X5
 go_step3
 go_upto_region 1 with fail
 go_cut [9,10,11] (fun u1 u2 u3 wx=>∃ g9 g10 g11,u1=.pointer (some ⟨g9,0,none⟩)∧u2=.pointer (some ⟨g10,0,none⟩)∧u3=.pointer (some ⟨g11,0,none⟩)∧Blk wx g9 36 #[.int .i64 t1.x,.int .i64 t1.y]∧Blk wx g10 36 #[.int .i64 t2.x,.int .i64 t2.y]∧Blk wx g11 36 #[.int .i64 t3.x,.int .i64 t3.y]∧Below W1.heap.size W1 wx)
 case first =>
  refine rt_start (SinceB (W1.heap.size) W1) (.run 14 0 0 (.three 14 32767 (.two 15 65535 (.call 16 131071 (.call 17 262143 (.call 18 524287 (.call 19 1048575 (.done))))) 16 98303 (.call 15 131071 (.call 17 262143 (.call 18 524287 (.call 19 1048575 (.done)))))) 15 49151 (.two 14 65535 (.call 16 131071 (.call 17 262143 (.call 18 524287 (.call 19 1048575 (.done))))) 16 114687 (.call 14 131071 (.call 17 262143 (.call 18 524287 (.call 19 1048575 (.done)))))) 16 81919 (.two 14 98303 (.call 15 131071 (.call 17 262143 (.call 18 524287 (.call 19 1048575 (.done))))) 15 114687 (.call 14 131071 (.call 17 262143 (.call 18 524287 (.call 19 1048575 (.done)))))))) (by kernel_rfl) (Below.drew (Below.refl _ _)) (by kernel_rfl) (by kernel_rfl) (Nat.le_of_ble_eq_true (by kernel_rfl)) ?_
  intro opsR QR Hops HQrg hS
  iterate 14
   apply rt_pB;exact Hops;exact rfl;exact hS;exact rfl
   · intro _ hqc;go_simp;try rfl
   try simp only [pu]
  refine rt_three (i:=14) (j:=15) (k:=16) (get_of Hops rfl) (get_of Hops rfl) (get_of Hops rfl) (fun K hK=>?_) (fun K hK=>?_) (fun K hK=>?_)
  ·
   have HSrg:=Lib.hid hS;clear hS
   refine rg_run (wanted_plain rfl) ?_
   go_simp
   have XAy:Below (W1.heap.size) W1 (W1.drew):=HSrg.out
   have XAz:W1.heap.size≤(W1.drew).heap.size:=Nat.le_trans (by omega) (show Below (W1.heap.size) W1 (W1.drew) from HSrg.out).size
   refine hK.out _ _ (bAB (by omega) HSrg.out _) (fun hS=>?_)
   clear hK K HSrg
   try replace XA:=XA.alloc (.cells #[.int .i64 0,.int .i64 0] 36)
   try replace XB:=XB.alloc (.cells #[.int .i64 0,.int .i64 0] 36)
   try replace XC:=XC.alloc (.cells #[.int .i64 0,.int .i64 0] 36)
   have XA:=Blk.new (W1.drew) 36 #[.int .i64 0,.int .i64 0]
   try simp only [World.size_drew,World.size_alloc] at XA XAz
   try simp only [pu]
   refine rt_two (i:=15) (j:=16) (get_of Hops rfl) (get_of Hops rfl) (fun K hK=>?_) (fun K hK=>?_)
   ·
    have HSrg:=Lib.hid hS;clear hS
    refine rg_run (wanted_plain rfl) ?_
    go_simp
    have XBy:Below (W1.heap.size) W1 ((W1.alloc (.cells #[.int .i64 0,.int .i64 0] 36)).drew):=HSrg.out
    have XBz:W1.heap.size≤((W1.alloc (.cells #[.int .i64 0,.int .i64 0] 36)).drew).heap.size:=Nat.le_trans (by omega) (show Below (W1.heap.size) W1 ((W1.alloc (.cells #[.int .i64 0,.int .i64 0] 36)).drew) from HSrg.out).size
    refine hK.out _ _ (bAB (by omega) HSrg.out _) (fun hS=>?_)
    clear hK K HSrg
    try replace XA:=XA.alloc (.cells #[.int .i64 0,.int .i64 0] 36)
    try replace XB:=XB.alloc (.cells #[.int .i64 0,.int .i64 0] 36)
    try replace XC:=XC.alloc (.cells #[.int .i64 0,.int .i64 0] 36)
    have XB:=Blk.new ((W1.alloc (.cells #[.int .i64 0,.int .i64 0] 36)).drew) 36 #[.int .i64 0,.int .i64 0]
    try simp only [World.size_drew,World.size_alloc] at XB XBz
    try simp only [pu]
    refine rt_call (i:=16) (get_of Hops rfl) (fun K hK=>?_)
    have HSrg:=Lib.hid hS;clear hS
    refine rg_run (wanted_plain rfl) ?_
    go_simp
    have XCy:Below (W1.heap.size) W1 (((W1.alloc (.cells #[.int .i64 0,.int .i64 0] 36)).alloc (.cells #[.int .i64 0,.int .i64 0] 36)).drew):=HSrg.out
    have XCz:W1.heap.size≤(((W1.alloc (.cells #[.int .i64 0,.int .i64 0] 36)).alloc (.cells #[.int .i64 0,.int .i64 0] 36)).drew).heap.size:=Nat.le_trans (by omega) (show Below (W1.heap.size) W1 (((W1.alloc (.cells #[.int .i64 0,.int .i64 0] 36)).alloc (.cells #[.int .i64 0,.int .i64 0] 36)).drew) from HSrg.out).size
    refine hK.out _ _ (bAB (by omega) HSrg.out _) (fun hS=>?_)
    clear hK K HSrg
    try replace XA:=XA.alloc (.cells #[.int .i64 0,.int .i64 0] 36)
    try replace XB:=XB.alloc (.cells #[.int .i64 0,.int .i64 0] 36)
    try replace XC:=XC.alloc (.cells #[.int .i64 0,.int .i64 0] 36)
    have XC:=Blk.new (((W1.alloc (.cells #[.int .i64 0,.int .i64 0] 36)).alloc (.cells #[.int .i64 0,.int .i64 0] 36)).drew) 36 #[.int .i64 0,.int .i64 0]
    try simp only [World.size_drew,World.size_alloc] at XC XCz
    try simp only [pu]
    refine rt_call (i:=17) (get_of Hops rfl) (fun K hK=>?_)
    have HSrg:=Lib.hid hS;clear hS
    refine rg_run (wanted_plain rfl) ?_
    obtain ⟨XAl,XAa,XAb,XAc,XAd⟩:=XA.facts2
    obtain ⟨XBl,XBa,XBb,XBc,XBd⟩:=XB.facts2
    obtain ⟨XCl,XCa,XCb,XCc,XCd⟩:=XC.facts2
    go_simp
    refine hK.out _ _ (by unfold SinceB;have h:Below _ _ _:=HSrg.out;repeat (first | with_reducible assumption | with_reducible exact Below.refl _ _ | with_reducible refine bSB ?_ (by first | omega | (simp;omega)) _ | with_reducible refine Below.drew ?_ | with_reducible refine bAB (by omega) ?_ _ | exact h)) ?_
    intro hS
    clear hK K HSrg
    try simp only [pu]
    refine rt_call (i:=18) (get_of Hops rfl) (fun K hK=>?_)
    have HSrg:=Lib.hid hS;clear hS
    refine rg_run (wanted_plain rfl) ?_
    go_simp
    refine hK.out _ _ (by unfold SinceB;have h:Below _ _ _:=HSrg.out;repeat (first | with_reducible assumption | with_reducible exact Below.refl _ _ | with_reducible refine bSB ?_ (by first | omega | (simp;omega)) _ | with_reducible refine Below.drew ?_ | with_reducible refine bAB (by omega) ?_ _ | exact h)) ?_
    intro hS
    clear hK K HSrg
    try simp only [pu]
    refine rt_call (i:=19) (get_of Hops rfl) (fun K hK=>?_)
    have HSrg:=Lib.hid hS;clear hS
    refine rg_run (wanted_plain rfl) ?_
    go_simp
    refine hK.out _ _ (by unfold SinceB;have h:Below _ _ _:=HSrg.out;repeat (first | with_reducible assumption | with_reducible exact Below.refl _ _ | with_reducible refine bSB ?_ (by first | omega | (simp;omega)) _ | with_reducible refine Below.drew ?_ | with_reducible refine bAB (by omega) ?_ _ | exact h)) ?_
    intro hS
    clear hK K HSrg
    try simp only [pu]
    refine rt_done ?_
    refine HQrg.down _ _ ?_
    have hB:Below (W1.heap.size) W1 _:=hS
    clear hS HQrg Hops
    go_wp2_with fail
    go_meet
    case rel => exact ⟨_,_,_,rfl,rfl,rfl,(by first | exact (((Blk.made rfl _ _).alloc _).alloc _).drew | exact ((Blk.made (by simp) _ _).alloc _).drew | exact (Blk.made (by simp) _ _).drew),(by first | exact (((Blk.made rfl _ _).alloc _).alloc _).drew | exact ((Blk.made (by simp) _ _).alloc _).drew | exact (Blk.made (by simp) _ _).drew),(by first | exact (((Blk.made rfl _ _).alloc _).alloc _).drew | exact ((Blk.made (by simp) _ _).alloc _).drew | exact (Blk.made (by simp) _ _).drew),hB⟩
   ·
    have HSrg:=Lib.hid hS;clear hS
    refine rg_run (wanted_plain rfl) ?_
    go_simp
    have XCy:Below (W1.heap.size) W1 ((W1.alloc (.cells #[.int .i64 0,.int .i64 0] 36)).drew):=HSrg.out
    have XCz:W1.heap.size≤((W1.alloc (.cells #[.int .i64 0,.int .i64 0] 36)).drew).heap.size:=Nat.le_trans (by omega) (show Below (W1.heap.size) W1 ((W1.alloc (.cells #[.int .i64 0,.int .i64 0] 36)).drew) from HSrg.out).size
    refine hK.out _ _ (bAB (by omega) HSrg.out _) (fun hS=>?_)
    clear hK K HSrg
    try replace XA:=XA.alloc (.cells #[.int .i64 0,.int .i64 0] 36)
    try replace XB:=XB.alloc (.cells #[.int .i64 0,.int .i64 0] 36)
    try replace XC:=XC.alloc (.cells #[.int .i64 0,.int .i64 0] 36)
    have XC:=Blk.new ((W1.alloc (.cells #[.int .i64 0,.int .i64 0] 36)).drew) 36 #[.int .i64 0,.int .i64 0]
    try simp only [World.size_drew,World.size_alloc] at XC XCz
    try simp only [pu]
    refine rt_call (i:=15) (get_of Hops rfl) (fun K hK=>?_)
    have HSrg:=Lib.hid hS;clear hS
    refine rg_run (wanted_plain rfl) ?_
    go_simp
    have XBy:Below (W1.heap.size) W1 (((W1.alloc (.cells #[.int .i64 0,.int .i64 0] 36)).alloc (.cells #[.int .i64 0,.int .i64 0] 36)).drew):=HSrg.out
    have XBz:W1.heap.size≤(((W1.alloc (.cells #[.int .i64 0,.int .i64 0] 36)).alloc (.cells #[.int .i64 0,.int .i64 0] 36)).drew).heap.size:=Nat.le_trans (by omega) (show Below (W1.heap.size) W1 (((W1.alloc (.cells #[.int .i64 0,.int .i64 0] 36)).alloc (.cells #[.int .i64 0,.int .i64 0] 36)).drew) from HSrg.out).size
    refine hK.out _ _ (bAB (by omega) HSrg.out _) (fun hS=>?_)
    clear hK K HSrg
    try replace XA:=XA.alloc (.cells #[.int .i64 0,.int .i64 0] 36)
    try replace XB:=XB.alloc (.cells #[.int .i64 0,.int .i64 0] 36)
    try replace XC:=XC.alloc (.cells #[.int .i64 0,.int .i64 0] 36)
    have XB:=Blk.new (((W1.alloc (.cells #[.int .i64 0,.int .i64 0] 36)).alloc (.cells #[.int .i64 0,.int .i64 0] 36)).drew) 36 #[.int .i64 0,.int .i64 0]
    try simp only [World.size_drew,World.size_alloc] at XB XBz
    try simp only [pu]
    refine rt_call (i:=17) (get_of Hops rfl) (fun K hK=>?_)
    have HSrg:=Lib.hid hS;clear hS
    refine rg_run (wanted_plain rfl) ?_
    obtain ⟨XAl,XAa,XAb,XAc,XAd⟩:=XA.facts2
    obtain ⟨XBl,XBa,XBb,XBc,XBd⟩:=XB.facts2
    obtain ⟨XCl,XCa,XCb,XCc,XCd⟩:=XC.facts2
    go_simp
    refine hK.out _ _ (by unfold SinceB;have h:Below _ _ _:=HSrg.out;repeat (first | with_reducible assumption | with_reducible exact Below.refl _ _ | with_reducible refine bSB ?_ (by first | omega | (simp;omega)) _ | with_reducible refine Below.drew ?_ | with_reducible refine bAB (by omega) ?_ _ | exact h)) ?_
    intro hS
    clear hK K HSrg
    try simp only [pu]
    refine rt_call (i:=18) (get_of Hops rfl) (fun K hK=>?_)
    have HSrg:=Lib.hid hS;clear hS
    refine rg_run (wanted_plain rfl) ?_
    go_simp
    refine hK.out _ _ (by unfold SinceB;have h:Below _ _ _:=HSrg.out;repeat (first | with_reducible assumption | with_reducible exact Below.refl _ _ | with_reducible refine bSB ?_ (by first | omega | (simp;omega)) _ | with_reducible refine Below.drew ?_ | with_reducible refine bAB (by omega) ?_ _ | exact h)) ?_
    intro hS
    clear hK K HSrg
    try simp only [pu]
    refine rt_call (i:=19) (get_of Hops rfl) (fun K hK=>?_)
    have HSrg:=Lib.hid hS;clear hS
    refine rg_run (wanted_plain rfl) ?_
    go_simp
    refine hK.out _ _ (by unfold SinceB;have h:Below _ _ _:=HSrg.out;repeat (first | with_reducible assumption | with_reducible exact Below.refl _ _ | with_reducible refine bSB ?_ (by first | omega | (simp;omega)) _ | with_reducible refine Below.drew ?_ | with_reducible refine bAB (by omega) ?_ _ | exact h)) ?_
    intro hS
    clear hK K HSrg
    try simp only [pu]
    refine rt_done ?_
    refine HQrg.down _ _ ?_
    have hB:Below (W1.heap.size) W1 _:=hS
    clear hS HQrg Hops
    go_wp2_with fail
    go_meet
    case rel => exact ⟨_,_,_,rfl,rfl,rfl,(by first | exact (((Blk.made rfl _ _).alloc _).alloc _).drew | exact ((Blk.made (by simp) _ _).alloc _).drew | exact (Blk.made (by simp) _ _).drew),(by first | exact (((Blk.made rfl _ _).alloc _).alloc _).drew | exact ((Blk.made (by simp) _ _).alloc _).drew | exact (Blk.made (by simp) _ _).drew),(by first | exact (((Blk.made rfl _ _).alloc _).alloc _).drew | exact ((Blk.made (by simp) _ _).alloc _).drew | exact (Blk.made (by simp) _ _).drew),hB⟩
  ·
   have HSrg:=Lib.hid hS;clear hS
   refine rg_run (wanted_plain rfl) ?_
   go_simp
   have XBy:Below (W1.heap.size) W1 (W1.drew):=HSrg.out
   have XBz:W1.heap.size≤(W1.drew).heap.size:=Nat.le_trans (by omega) (show Below (W1.heap.size) W1 (W1.drew) from HSrg.out).size
   refine hK.out _ _ (bAB (by omega) HSrg.out _) (fun hS=>?_)
   clear hK K HSrg
   try replace XA:=XA.alloc (.cells #[.int .i64 0,.int .i64 0] 36)
   try replace XB:=XB.alloc (.cells #[.int .i64 0,.int .i64 0] 36)
   try replace XC:=XC.alloc (.cells #[.int .i64 0,.int .i64 0] 36)
   have XB:=Blk.new (W1.drew) 36 #[.int .i64 0,.int .i64 0]
   try simp only [World.size_drew,World.size_alloc] at XB XBz
   try simp only [pu]
   refine rt_two (i:=14) (j:=16) (get_of Hops rfl) (get_of Hops rfl) (fun K hK=>?_) (fun K hK=>?_)
   ·
    have HSrg:=Lib.hid hS;clear hS
    refine rg_run (wanted_plain rfl) ?_
    go_simp
    have XAy:Below (W1.heap.size) W1 ((W1.alloc (.cells #[.int .i64 0,.int .i64 0] 36)).drew):=HSrg.out
    have XAz:W1.heap.size≤((W1.alloc (.cells #[.int .i64 0,.int .i64 0] 36)).drew).heap.size:=Nat.le_trans (by omega) (show Below (W1.heap.size) W1 ((W1.alloc (.cells #[.int .i64 0,.int .i64 0] 36)).drew) from HSrg.out).size
    refine hK.out _ _ (bAB (by omega) HSrg.out _) (fun hS=>?_)
    clear hK K HSrg
    try replace XA:=XA.alloc (.cells #[.int .i64 0,.int .i64 0] 36)
    try replace XB:=XB.alloc (.cells #[.int .i64 0,.int .i64 0] 36)
    try replace XC:=XC.alloc (.cells #[.int .i64 0,.int .i64 0] 36)
    have XA:=Blk.new ((W1.alloc (.cells #[.int .i64 0,.int .i64 0] 36)).drew) 36 #[.int .i64 0,.int .i64 0]
    try simp only [World.size_drew,World.size_alloc] at XA XAz
    try simp only [pu]
    refine rt_call (i:=16) (get_of Hops rfl) (fun K hK=>?_)
    have HSrg:=Lib.hid hS;clear hS
    refine rg_run (wanted_plain rfl) ?_
    go_simp
    have XCy:Below (W1.heap.size) W1 (((W1.alloc (.cells #[.int .i64 0,.int .i64 0] 36)).alloc (.cells #[.int .i64 0,.int .i64 0] 36)).drew):=HSrg.out
    have XCz:W1.heap.size≤(((W1.alloc (.cells #[.int .i64 0,.int .i64 0] 36)).alloc (.cells #[.int .i64 0,.int .i64 0] 36)).drew).heap.size:=Nat.le_trans (by omega) (show Below (W1.heap.size) W1 (((W1.alloc (.cells #[.int .i64 0,.int .i64 0] 36)).alloc (.cells #[.int .i64 0,.int .i64 0] 36)).drew) from HSrg.out).size
    refine hK.out _ _ (bAB (by omega) HSrg.out _) (fun hS=>?_)
    clear hK K HSrg
    try replace XA:=XA.alloc (.cells #[.int .i64 0,.int .i64 0] 36)
    try replace XB:=XB.alloc (.cells #[.int .i64 0,.int .i64 0] 36)
    try replace XC:=XC.alloc (.cells #[.int .i64 0,.int .i64 0] 36)
    have XC:=Blk.new (((W1.alloc (.cells #[.int .i64 0,.int .i64 0] 36)).alloc (.cells #[.int .i64 0,.int .i64 0] 36)).drew) 36 #[.int .i64 0,.int .i64 0]
    try simp only [World.size_drew,World.size_alloc] at XC XCz
    try simp only [pu]
    refine rt_call (i:=17) (get_of Hops rfl) (fun K hK=>?_)
    have HSrg:=Lib.hid hS;clear hS
    refine rg_run (wanted_plain rfl) ?_
    obtain ⟨XAl,XAa,XAb,XAc,XAd⟩:=XA.facts2
    obtain ⟨XBl,XBa,XBb,XBc,XBd⟩:=XB.facts2
    obtain ⟨XCl,XCa,XCb,XCc,XCd⟩:=XC.facts2
    go_simp
    refine hK.out _ _ (by unfold SinceB;have h:Below _ _ _:=HSrg.out;repeat (first | with_reducible assumption | with_reducible exact Below.refl _ _ | with_reducible refine bSB ?_ (by first | omega | (simp;omega)) _ | with_reducible refine Below.drew ?_ | with_reducible refine bAB (by omega) ?_ _ | exact h)) ?_
    intro hS
    clear hK K HSrg
    try simp only [pu]
    refine rt_call (i:=18) (get_of Hops rfl) (fun K hK=>?_)
    have HSrg:=Lib.hid hS;clear hS
    refine rg_run (wanted_plain rfl) ?_
    go_simp
    refine hK.out _ _ (by unfold SinceB;have h:Below _ _ _:=HSrg.out;repeat (first | with_reducible assumption | with_reducible exact Below.refl _ _ | with_reducible refine bSB ?_ (by first | omega | (simp;omega)) _ | with_reducible refine Below.drew ?_ | with_reducible refine bAB (by omega) ?_ _ | exact h)) ?_
    intro hS
    clear hK K HSrg
    try simp only [pu]
    refine rt_call (i:=19) (get_of Hops rfl) (fun K hK=>?_)
    have HSrg:=Lib.hid hS;clear hS
    refine rg_run (wanted_plain rfl) ?_
    go_simp
    refine hK.out _ _ (by unfold SinceB;have h:Below _ _ _:=HSrg.out;repeat (first | with_reducible assumption | with_reducible exact Below.refl _ _ | with_reducible refine bSB ?_ (by first | omega | (simp;omega)) _ | with_reducible refine Below.drew ?_ | with_reducible refine bAB (by omega) ?_ _ | exact h)) ?_
    intro hS
    clear hK K HSrg
    try simp only [pu]
    refine rt_done ?_
    refine HQrg.down _ _ ?_
    have hB:Below (W1.heap.size) W1 _:=hS
    clear hS HQrg Hops
    go_wp2_with fail
    go_meet
    case rel => exact ⟨_,_,_,rfl,rfl,rfl,(by first | exact (((Blk.made rfl _ _).alloc _).alloc _).drew | exact ((Blk.made (by simp) _ _).alloc _).drew | exact (Blk.made (by simp) _ _).drew),(by first | exact (((Blk.made rfl _ _).alloc _).alloc _).drew | exact ((Blk.made (by simp) _ _).alloc _).drew | exact (Blk.made (by simp) _ _).drew),(by first | exact (((Blk.made rfl _ _).alloc _).alloc _).drew | exact ((Blk.made (by simp) _ _).alloc _).drew | exact (Blk.made (by simp) _ _).drew),hB⟩
   ·
    have HSrg:=Lib.hid hS;clear hS
    refine rg_run (wanted_plain rfl) ?_
    go_simp
    have XCy:Below (W1.heap.size) W1 ((W1.alloc (.cells #[.int .i64 0,.int .i64 0] 36)).drew):=HSrg.out
    have XCz:W1.heap.size≤((W1.alloc (.cells #[.int .i64 0,.int .i64 0] 36)).drew).heap.size:=Nat.le_trans (by omega) (show Below (W1.heap.size) W1 ((W1.alloc (.cells #[.int .i64 0,.int .i64 0] 36)).drew) from HSrg.out).size
    refine hK.out _ _ (bAB (by omega) HSrg.out _) (fun hS=>?_)
    clear hK K HSrg
    try replace XA:=XA.alloc (.cells #[.int .i64 0,.int .i64 0] 36)
    try replace XB:=XB.alloc (.cells #[.int .i64 0,.int .i64 0] 36)
    try replace XC:=XC.alloc (.cells #[.int .i64 0,.int .i64 0] 36)
    have XC:=Blk.new ((W1.alloc (.cells #[.int .i64 0,.int .i64 0] 36)).drew) 36 #[.int .i64 0,.int .i64 0]
    try simp only [World.size_drew,World.size_alloc] at XC XCz
    try simp only [pu]
    refine rt_call (i:=14) (get_of Hops rfl) (fun K hK=>?_)
    have HSrg:=Lib.hid hS;clear hS
    refine rg_run (wanted_plain rfl) ?_
    go_simp
    have XAy:Below (W1.heap.size) W1 (((W1.alloc (.cells #[.int .i64 0,.int .i64 0] 36)).alloc (.cells #[.int .i64 0,.int .i64 0] 36)).drew):=HSrg.out
    have XAz:W1.heap.size≤(((W1.alloc (.cells #[.int .i64 0,.int .i64 0] 36)).alloc (.cells #[.int .i64 0,.int .i64 0] 36)).drew).heap.size:=Nat.le_trans (by omega) (show Below (W1.heap.size) W1 (((W1.alloc (.cells #[.int .i64 0,.int .i64 0] 36)).alloc (.cells #[.int .i64 0,.int .i64 0] 36)).drew) from HSrg.out).size
    refine hK.out _ _ (bAB (by omega) HSrg.out _) (fun hS=>?_)
    clear hK K HSrg
    try replace XA:=XA.alloc (.cells #[.int .i64 0,.int .i64 0] 36)
    try replace XB:=XB.alloc (.cells #[.int .i64 0,.int .i64 0] 36)
    try replace XC:=XC.alloc (.cells #[.int .i64 0,.int .i64 0] 36)
    have XA:=Blk.new (((W1.alloc (.cells #[.int .i64 0,.int .i64 0] 36)).alloc (.cells #[.int .i64 0,.int .i64 0] 36)).drew) 36 #[.int .i64 0,.int .i64 0]
    try simp only [World.size_drew,World.size_alloc] at XA XAz
    try simp only [pu]
    refine rt_call (i:=17) (get_of Hops rfl) (fun K hK=>?_)
    have HSrg:=Lib.hid hS;clear hS
    refine rg_run (wanted_plain rfl) ?_
    obtain ⟨XAl,XAa,XAb,XAc,XAd⟩:=XA.facts2
    obtain ⟨XBl,XBa,XBb,XBc,XBd⟩:=XB.facts2
    obtain ⟨XCl,XCa,XCb,XCc,XCd⟩:=XC.facts2
    go_simp
    refine hK.out _ _ (by unfold SinceB;have h:Below _ _ _:=HSrg.out;repeat (first | with_reducible assumption | with_reducible exact Below.refl _ _ | with_reducible refine bSB ?_ (by first | omega | (simp;omega)) _ | with_reducible refine Below.drew ?_ | with_reducible refine bAB (by omega) ?_ _ | exact h)) ?_
    intro hS
    clear hK K HSrg
    try simp only [pu]
    refine rt_call (i:=18) (get_of Hops rfl) (fun K hK=>?_)
    have HSrg:=Lib.hid hS;clear hS
    refine rg_run (wanted_plain rfl) ?_
    go_simp
    refine hK.out _ _ (by unfold SinceB;have h:Below _ _ _:=HSrg.out;repeat (first | with_reducible assumption | with_reducible exact Below.refl _ _ | with_reducible refine bSB ?_ (by first | omega | (simp;omega)) _ | with_reducible refine Below.drew ?_ | with_reducible refine bAB (by omega) ?_ _ | exact h)) ?_
    intro hS
    clear hK K HSrg
    try simp only [pu]
    refine rt_call (i:=19) (get_of Hops rfl) (fun K hK=>?_)
    have HSrg:=Lib.hid hS;clear hS
    refine rg_run (wanted_plain rfl) ?_
    go_simp
    refine hK.out _ _ (by unfold SinceB;have h:Below _ _ _:=HSrg.out;repeat (first | with_reducible assumption | with_reducible exact Below.refl _ _ | with_reducible refine bSB ?_ (by first | omega | (simp;omega)) _ | with_reducible refine Below.drew ?_ | with_reducible refine bAB (by omega) ?_ _ | exact h)) ?_
    intro hS
    clear hK K HSrg
    try simp only [pu]
    refine rt_done ?_
    refine HQrg.down _ _ ?_
    have hB:Below (W1.heap.size) W1 _:=hS
    clear hS HQrg Hops
    go_wp2_with fail
    go_meet
    case rel => exact ⟨_,_,_,rfl,rfl,rfl,(by first | exact (((Blk.made rfl _ _).alloc _).alloc _).drew | exact ((Blk.made (by simp) _ _).alloc _).drew | exact (Blk.made (by simp) _ _).drew),(by first | exact (((Blk.made rfl _ _).alloc _).alloc _).drew | exact ((Blk.made (by simp) _ _).alloc _).drew | exact (Blk.made (by simp) _ _).drew),(by first | exact (((Blk.made rfl _ _).alloc _).alloc _).drew | exact ((Blk.made (by simp) _ _).alloc _).drew | exact (Blk.made (by simp) _ _).drew),hB⟩
  ·
   have HSrg:=Lib.hid hS;clear hS
   refine rg_run (wanted_plain rfl) ?_
   go_simp
   have XCy:Below (W1.heap.size) W1 (W1.drew):=HSrg.out
   have XCz:W1.heap.size≤(W1.drew).heap.size:=Nat.le_trans (by omega) (show Below (W1.heap.size) W1 (W1.drew) from HSrg.out).size
   refine hK.out _ _ (bAB (by omega) HSrg.out _) (fun hS=>?_)
   clear hK K HSrg
   try replace XA:=XA.alloc (.cells #[.int .i64 0,.int .i64 0] 36)
   try replace XB:=XB.alloc (.cells #[.int .i64 0,.int .i64 0] 36)
   try replace XC:=XC.alloc (.cells #[.int .i64 0,.int .i64 0] 36)
   have XC:=Blk.new (W1.drew) 36 #[.int .i64 0,.int .i64 0]
   try simp only [World.size_drew,World.size_alloc] at XC XCz
   try simp only [pu]
   refine rt_two (i:=14) (j:=15) (get_of Hops rfl) (get_of Hops rfl) (fun K hK=>?_) (fun K hK=>?_)
   ·
    have HSrg:=Lib.hid hS;clear hS
    refine rg_run (wanted_plain rfl) ?_
    go_simp
    have XAy:Below (W1.heap.size) W1 ((W1.alloc (.cells #[.int .i64 0,.int .i64 0] 36)).drew):=HSrg.out
    have XAz:W1.heap.size≤((W1.alloc (.cells #[.int .i64 0,.int .i64 0] 36)).drew).heap.size:=Nat.le_trans (by omega) (show Below (W1.heap.size) W1 ((W1.alloc (.cells #[.int .i64 0,.int .i64 0] 36)).drew) from HSrg.out).size
    refine hK.out _ _ (bAB (by omega) HSrg.out _) (fun hS=>?_)
    clear hK K HSrg
    try replace XA:=XA.alloc (.cells #[.int .i64 0,.int .i64 0] 36)
    try replace XB:=XB.alloc (.cells #[.int .i64 0,.int .i64 0] 36)
    try replace XC:=XC.alloc (.cells #[.int .i64 0,.int .i64 0] 36)
    have XA:=Blk.new ((W1.alloc (.cells #[.int .i64 0,.int .i64 0] 36)).drew) 36 #[.int .i64 0,.int .i64 0]
    try simp only [World.size_drew,World.size_alloc] at XA XAz
    try simp only [pu]
    refine rt_call (i:=15) (get_of Hops rfl) (fun K hK=>?_)
    have HSrg:=Lib.hid hS;clear hS
    refine rg_run (wanted_plain rfl) ?_
    go_simp
    have XBy:Below (W1.heap.size) W1 (((W1.alloc (.cells #[.int .i64 0,.int .i64 0] 36)).alloc (.cells #[.int .i64 0,.int .i64 0] 36)).drew):=HSrg.out
    have XBz:W1.heap.size≤(((W1.alloc (.cells #[.int .i64 0,.int .i64 0] 36)).alloc (.cells #[.int .i64 0,.int .i64 0] 36)).drew).heap.size:=Nat.le_trans (by omega) (show Below (W1.heap.size) W1 (((W1.alloc (.cells #[.int .i64 0,.int .i64 0] 36)).alloc (.cells #[.int .i64 0,.int .i64 0] 36)).drew) from HSrg.out).size
    refine hK.out _ _ (bAB (by omega) HSrg.out _) (fun hS=>?_)
    clear hK K HSrg
    try replace XA:=XA.alloc (.cells #[.int .i64 0,.int .i64 0] 36)
    try replace XB:=XB.alloc (.cells #[.int .i64 0,.int .i64 0] 36)
    try replace XC:=XC.alloc (.cells #[.int .i64 0,.int .i64 0] 36)
    have XB:=Blk.new (((W1.alloc (.cells #[.int .i64 0,.int .i64 0] 36)).alloc (.cells #[.int .i64 0,.int .i64 0] 36)).drew) 36 #[.int .i64 0,.int .i64 0]
    try simp only [World.size_drew,World.size_alloc] at XB XBz
    try simp only [pu]
    refine rt_call (i:=17) (get_of Hops rfl) (fun K hK=>?_)
    have HSrg:=Lib.hid hS;clear hS
    refine rg_run (wanted_plain rfl) ?_
    obtain ⟨XAl,XAa,XAb,XAc,XAd⟩:=XA.facts2
    obtain ⟨XBl,XBa,XBb,XBc,XBd⟩:=XB.facts2
    obtain ⟨XCl,XCa,XCb,XCc,XCd⟩:=XC.facts2
    go_simp
    refine hK.out _ _ (by unfold SinceB;have h:Below _ _ _:=HSrg.out;repeat (first | with_reducible assumption | with_reducible exact Below.refl _ _ | with_reducible refine bSB ?_ (by first | omega | (simp;omega)) _ | with_reducible refine Below.drew ?_ | with_reducible refine bAB (by omega) ?_ _ | exact h)) ?_
    intro hS
    clear hK K HSrg
    try simp only [pu]
    refine rt_call (i:=18) (get_of Hops rfl) (fun K hK=>?_)
    have HSrg:=Lib.hid hS;clear hS
    refine rg_run (wanted_plain rfl) ?_
    go_simp
    refine hK.out _ _ (by unfold SinceB;have h:Below _ _ _:=HSrg.out;repeat (first | with_reducible assumption | with_reducible exact Below.refl _ _ | with_reducible refine bSB ?_ (by first | omega | (simp;omega)) _ | with_reducible refine Below.drew ?_ | with_reducible refine bAB (by omega) ?_ _ | exact h)) ?_
    intro hS
    clear hK K HSrg
    try simp only [pu]
    refine rt_call (i:=19) (get_of Hops rfl) (fun K hK=>?_)
    have HSrg:=Lib.hid hS;clear hS
    refine rg_run (wanted_plain rfl) ?_
    go_simp
    refine hK.out _ _ (by unfold SinceB;have h:Below _ _ _:=HSrg.out;repeat (first | with_reducible assumption | with_reducible exact Below.refl _ _ | with_reducible refine bSB ?_ (by first | omega | (simp;omega)) _ | with_reducible refine Below.drew ?_ | with_reducible refine bAB (by omega) ?_ _ | exact h)) ?_
    intro hS
    clear hK K HSrg
    try simp only [pu]
    refine rt_done ?_
    refine HQrg.down _ _ ?_
    have hB:Below (W1.heap.size) W1 _:=hS
    clear hS HQrg Hops
    go_wp2_with fail
    go_meet
    case rel => exact ⟨_,_,_,rfl,rfl,rfl,(by first | exact (((Blk.made rfl _ _).alloc _).alloc _).drew | exact ((Blk.made (by simp) _ _).alloc _).drew | exact (Blk.made (by simp) _ _).drew),(by first | exact (((Blk.made rfl _ _).alloc _).alloc _).drew | exact ((Blk.made (by simp) _ _).alloc _).drew | exact (Blk.made (by simp) _ _).drew),(by first | exact (((Blk.made rfl _ _).alloc _).alloc _).drew | exact ((Blk.made (by simp) _ _).alloc _).drew | exact (Blk.made (by simp) _ _).drew),hB⟩
   ·
    have HSrg:=Lib.hid hS;clear hS
    refine rg_run (wanted_plain rfl) ?_
    go_simp
    have XBy:Below (W1.heap.size) W1 ((W1.alloc (.cells #[.int .i64 0,.int .i64 0] 36)).drew):=HSrg.out
    have XBz:W1.heap.size≤((W1.alloc (.cells #[.int .i64 0,.int .i64 0] 36)).drew).heap.size:=Nat.le_trans (by omega) (show Below (W1.heap.size) W1 ((W1.alloc (.cells #[.int .i64 0,.int .i64 0] 36)).drew) from HSrg.out).size
    refine hK.out _ _ (bAB (by omega) HSrg.out _) (fun hS=>?_)
    clear hK K HSrg
    try replace XA:=XA.alloc (.cells #[.int .i64 0,.int .i64 0] 36)
    try replace XB:=XB.alloc (.cells #[.int .i64 0,.int .i64 0] 36)
    try replace XC:=XC.alloc (.cells #[.int .i64 0,.int .i64 0] 36)
    have XB:=Blk.new ((W1.alloc (.cells #[.int .i64 0,.int .i64 0] 36)).drew) 36 #[.int .i64 0,.int .i64 0]
    try simp only [World.size_drew,World.size_alloc] at XB XBz
    try simp only [pu]
    refine rt_call (i:=14) (get_of Hops rfl) (fun K hK=>?_)
    have HSrg:=Lib.hid hS;clear hS
    refine rg_run (wanted_plain rfl) ?_
    go_simp
    have XAy:Below (W1.heap.size) W1 (((W1.alloc (.cells #[.int .i64 0,.int .i64 0] 36)).alloc (.cells #[.int .i64 0,.int .i64 0] 36)).drew):=HSrg.out
    have XAz:W1.heap.size≤(((W1.alloc (.cells #[.int .i64 0,.int .i64 0] 36)).alloc (.cells #[.int .i64 0,.int .i64 0] 36)).drew).heap.size:=Nat.le_trans (by omega) (show Below (W1.heap.size) W1 (((W1.alloc (.cells #[.int .i64 0,.int .i64 0] 36)).alloc (.cells #[.int .i64 0,.int .i64 0] 36)).drew) from HSrg.out).size
    refine hK.out _ _ (bAB (by omega) HSrg.out _) (fun hS=>?_)
    clear hK K HSrg
    try replace XA:=XA.alloc (.cells #[.int .i64 0,.int .i64 0] 36)
    try replace XB:=XB.alloc (.cells #[.int .i64 0,.int .i64 0] 36)
    try replace XC:=XC.alloc (.cells #[.int .i64 0,.int .i64 0] 36)
    have XA:=Blk.new (((W1.alloc (.cells #[.int .i64 0,.int .i64 0] 36)).alloc (.cells #[.int .i64 0,.int .i64 0] 36)).drew) 36 #[.int .i64 0,.int .i64 0]
    try simp only [World.size_drew,World.size_alloc] at XA XAz
    try simp only [pu]
    refine rt_call (i:=17) (get_of Hops rfl) (fun K hK=>?_)
    have HSrg:=Lib.hid hS;clear hS
    refine rg_run (wanted_plain rfl) ?_
    obtain ⟨XAl,XAa,XAb,XAc,XAd⟩:=XA.facts2
    obtain ⟨XBl,XBa,XBb,XBc,XBd⟩:=XB.facts2
    obtain ⟨XCl,XCa,XCb,XCc,XCd⟩:=XC.facts2
    go_simp
    refine hK.out _ _ (by unfold SinceB;have h:Below _ _ _:=HSrg.out;repeat (first | with_reducible assumption | with_reducible exact Below.refl _ _ | with_reducible refine bSB ?_ (by first | omega | (simp;omega)) _ | with_reducible refine Below.drew ?_ | with_reducible refine bAB (by omega) ?_ _ | exact h)) ?_
    intro hS
    clear hK K HSrg
    try simp only [pu]
    refine rt_call (i:=18) (get_of Hops rfl) (fun K hK=>?_)
    have HSrg:=Lib.hid hS;clear hS
    refine rg_run (wanted_plain rfl) ?_
    go_simp
    refine hK.out _ _ (by unfold SinceB;have h:Below _ _ _:=HSrg.out;repeat (first | with_reducible assumption | with_reducible exact Below.refl _ _ | with_reducible refine bSB ?_ (by first | omega | (simp;omega)) _ | with_reducible refine Below.drew ?_ | with_reducible refine bAB (by omega) ?_ _ | exact h)) ?_
    intro hS
    clear hK K HSrg
    try simp only [pu]
    refine rt_call (i:=19) (get_of Hops rfl) (fun K hK=>?_)
    have HSrg:=Lib.hid hS;clear hS
    refine rg_run (wanted_plain rfl) ?_
    go_simp
    refine hK.out _ _ (by unfold SinceB;have h:Below _ _ _:=HSrg.out;repeat (first | with_reducible assumption | with_reducible exact Below.refl _ _ | with_reducible refine bSB ?_ (by first | omega | (simp;omega)) _ | with_reducible refine Below.drew ?_ | with_reducible refine bAB (by omega) ?_ _ | exact h)) ?_
    intro hS
    clear hK K HSrg
    try simp only [pu]
    refine rt_done ?_
    refine HQrg.down _ _ ?_
    have hB:Below (W1.heap.size) W1 _:=hS
    clear hS HQrg Hops
    go_wp2_with fail
    go_meet
    case rel => exact ⟨_,_,_,rfl,rfl,rfl,(by first | exact (((Blk.made rfl _ _).alloc _).alloc _).drew | exact ((Blk.made (by simp) _ _).alloc _).drew | exact (Blk.made (by simp) _ _).drew),(by first | exact (((Blk.made rfl _ _).alloc _).alloc _).drew | exact ((Blk.made (by simp) _ _).alloc _).drew | exact (Blk.made (by simp) _ _).drew),(by first | exact (((Blk.made rfl _ _).alloc _).alloc _).drew | exact ((Blk.made (by simp) _ _).alloc _).drew | exact (Blk.made (by simp) _ _).drew),hB⟩
 case rest =>
 obtain ⟨g9,g10,g11,rfl,rfl,rfl,x9,x10,x11,hbc⟩:=hcut
 obtain ⟨W2,hW⟩:∃ W:World,W=wc:=⟨_,rfl⟩
 rw [← hW] at x9 x10 x11 hbc ⊢
 have HB2:=Lib.hid (bT HB1.out hbc)
 have HX42:=Lib.hid (HX4.out.keep hbc);have HX52:=Lib.hid (HX5.out.keep hbc)
 have HX9:=Lib.hid x9;have HX10:=Lib.hid x10;have HX11:=Lib.hid x11
 clear hW hbc c0 c1 c2 c3 c4 c5 hlb1 k0 k1 l0 l1 l2 l3 l4 l5 l6 HX4 HX5 HB1
 have hR:=HR.out
 clear HR
 obtain ⟨x9l,x9a,x9b,-,-⟩:=x9.facts2
 obtain ⟨x10l,x10a,x10b,-,-⟩:=x10.facts2
 obtain ⟨x11l,x11a,x11b,-,-⟩:=x11.facts2
 obtain ⟨v1,hv1⟩:∃ v,ptOk t1=v:=⟨_,rfl⟩
 rw [hv1] at hR HV1
 clear hv1
 go_upto_region 2 with fail
 go_wp2_with fail
 refine (HV1.out _).mono ?_
 rintro e w3 ⟨rfl,hb3⟩
 have HB3:=Lib.hid hb3
 clear hb3 x9 x9l x9a x9b x10 x10l x10a x10b x11 x11l x11a x11b HV1
 cases v1
 case false =>
  rw [Bool.false_and] at hR
  subst hR
  go_wp2_with fail
  rw [Exit.noGoto_ret]
  go_ret
  exact ⟨rfl,bT HB2.out HB3.out⟩
 rw [Bool.true_and] at hR
 obtain ⟨v2,hv2⟩:∃ v,ptOk t2=v:=⟨_,rfl⟩
 rw [hv2] at hR HV2
 have x10:=HX10.out.keep HB3.out
 clear hv2
 try clear x10l
 try clear x10a
 try clear x10b
 obtain ⟨x10l,x10a,x10b,-,-⟩:=x10.facts2
 go_wp2_with fail
 refine (HV2.out _).mono ?_
 rintro e w4 ⟨rfl,hb4⟩
 have HB4:=Lib.hid (bT HB3.out hb4)
 clear hb4 x10 x10l x10a x10b HV2 HB3
 cases v2
 case false =>
  rw [Bool.false_and] at hR
  subst hR
  go_wp2_with fail
  rw [Exit.noGoto_ret]
  go_ret
  exact ⟨rfl,bT HB2.out HB4.out⟩
 rw [Bool.true_and] at hR
 obtain ⟨v3,hv3⟩:∃ v,ptOk t3=v:=⟨_,rfl⟩
 rw [hv3] at hR HV3
 have x11:=HX11.out.keep HB4.out
 clear hv3
 try clear x11l
 try clear x11a
 try clear x11b
 obtain ⟨x11l,x11a,x11b,-,-⟩:=x11.facts2
 go_wp2_with fail
 refine (HV3.out _).mono ?_
 rintro e w5 ⟨rfl,hb5⟩
 have HB5:=Lib.hid (bT HB4.out hb5)
 clear hb5 x11 x11l x11a x11b HV3 HB4
 cases v3
 case false =>
  rw [Bool.false_and] at hR
  subst hR
  go_wp2_with fail
  rw [Exit.noGoto_ret]
  go_ret
  exact ⟨rfl,bT HB2.out HB5.out⟩
 rw [Bool.true_and] at hR
 have X5:=HX52.out.keep HB5.out
 obtain ⟨X5l,X5a,X5b,X5c,X5d,X5e,X5f,-,-,-,-,-,-⟩:=X5.facts6
 go_upto_region 4 with fail
 obtain ⟨z1,hz1⟩:∃ z,(decide (a.fr=a.dst) && decide (vn<3))=z:=⟨_,rfl⟩
 rw [hz1] at hR
 go_cut [58] (fun u wx=>u=.bool z1∧wx=w5)
 case first =>
  cases e1:(a.fr == a.dst)
  case false =>
   have q1:=Lib.hid (show z1=false by rw [← hz1,decide_eq_false (by simpa using e1)];rfl)
   clear hz1 hR
   go_wp2_with fail
   go_meet
   case rel => exact ⟨by rw [q1.out],rfl⟩
  case true =>
   by_cases e2:(vn:Int)<3
   ·
    have q1:=Lib.hid (show z1=true by rw [← hz1,decide_eq_true (by simpa using e1),decide_eq_true (by omega)];rfl)
    clear hz1 hR
    go_wp2_with fail
    go_meet
    case rel => exact ⟨by rw [q1.out],rfl⟩
   ·
    have q1:=Lib.hid (show z1=false by rw [← hz1,decide_eq_false (show ¬ vn<3 by omega),Bool.and_false])
    clear hz1 hR
    go_wp2_with fail
    go_meet
    case rel => exact ⟨by rw [q1.out],rfl⟩
 case rest =>
 obtain ⟨rfl,hw⟩:=hcut
 obtain ⟨W6,hW⟩:∃ W:World,W=wc:=⟨_,rfl⟩
 rw [← hW] at hw ⊢
 subst hw
 clear hW hz1 X5l X5a X5b X5c X5d X5e X5f
 cases z1
 case true =>
  rw [Bool.not_true,Bool.false_and] at hR
  subst hR
  go_wp2_with fail
  rw [Exit.noGoto_ret]
  go_ret
  exact ⟨rfl,bT HB2.out HB5.out⟩
 rw [Bool.not_false,Bool.true_and] at hR
 have X4:=HX42.out.keep HB5.out
 have HB5w:=Lib.hid (bT HB2.out HB5.out)
 try clear X5l
 try clear X5a
 try clear X5b
 try clear X5c
 try clear X5d
 try clear X5e
 try clear X5f
 obtain ⟨X5l,X5a,X5b,X5c,X5d,X5e,X5f,-,-,-,-,-,-⟩:=X5.facts6
 obtain ⟨X4l,X4a,X4b,X4c,-,-,-⟩:=X4.facts3
 obtain ⟨z2,hz2⟩:∃ z,(decide (vn=1) && paraS p a)=z:=⟨_,rfl⟩
 rw [hz2] at hR
 have HRr:=Lib.hid hR
 clear hR
 go_upto_region 6 with fail
 go_cut [67] (fun u wx=>u=.bool z2∧Below W6.heap.size W6 wx)
 case first =>
  by_cases e2:vn=1
  ·
   have q1:=Lib.hid (show paraS p a=z2 by rw [← hz2,decide_eq_true e2,Bool.true_and])
   have e3:((vn:Int) == 1)=true:=by rw [beq_iff_eq];omega
   have HPw:=Lib.hid (HPa.out W6 HB5w.out)
   clear hz2 e2
   go_wp2_with fail
   refine HPw.out.mono ?_
   rintro e w7 ⟨rfl,hb7⟩
   go_wp2_with fail
   go_meet
   case rel => exact ⟨by rw [q1.out],hb7⟩
  ·
   have q1:=Lib.hid (show z2=false by rw [← hz2,decide_eq_false e2];rfl)
   have e3:((vn:Int) == 1)=false:=by rw [beq_eq_false_iff_ne];omega
   clear hz2 e2
   go_wp2_with fail
   go_meet
   case rel => exact ⟨by rw [q1.out],bR W6⟩
 case rest =>
 obtain ⟨rfl,hbc⟩:=hcut
 obtain ⟨W7,hW⟩:∃ W:World,W=wc:=⟨_,rfl⟩
 rw [← hW] at hbc ⊢
 have HB7:=Lib.hid (bT HB5.out hbc)
 clear hW hz2 hbc X5 X5l X5a X5b X5c X5d X5e X5f X4 X4l X4a X4b X4c HB5 HB5w
 cases z2
 case true =>
  have hR:=HRr.out
  rw [Bool.not_true,Bool.false_and] at hR
  subst hR
  go_wp2_with fail
  rw [Exit.noGoto_ret]
  go_ret
  exact ⟨rfl,bT HB2.out HB7.out⟩
 have hR:=HRr.out
 rw [Bool.not_false,Bool.true_and] at hR
 have HR:=Lib.hid hR
 clear hR HRr HPa HX52
 have x9:=HX9.out.keep HB7.out;have x10:=HX10.out.keep HB7.out;have x11:=HX11.out.keep HB7.out
 try clear x9l
 try clear x9a
 try clear x9b
 obtain ⟨x9l,x9a,x9b,-,-⟩:=x9.facts2
 try clear x10l
 try clear x10a
 try clear x10b
 obtain ⟨x10l,x10a,x10b,-,-⟩:=x10.facts2
 try clear x11l
 try clear x11a
 try clear x11b
 obtain ⟨x11l,x11a,x11b,-,-⟩:=x11.facts2
 go_upto_region 8 with fail
 go_wp2_with fail
 refine (HTr.out _).mono ?_
 rintro e w8 ⟨⟨g7,g8,g3,g4,g5,rfl,hT⟩,hb8⟩
 have hst:=fun (a:Addr) (w:World)=>run_store Tryz.prog w a (.func (.func 71) #[] #[.pointer (some ⟨g7,0,none⟩),.pointer (some ⟨g8,0,none⟩),.pointer (some ⟨g3,0,none⟩),.pointer (some ⟨g4,0,none⟩),.pointer (some ⟨g5,0,none⟩)]) .plain rfl
 have HB8:=Lib.hid (bT HB7.out hb8)
 have HT:=Lib.hid hT
 clear hb8 hT x9 x9l x9a x9b x10 x10l x10a x10b x11 x11l x11a x11b HTr
 go_upto_region 9 with fail
 obtain ⟨g12,hg12⟩:∃ g,w8.heap.size=g:=⟨_,rfl⟩
 obtain ⟨W9,hW⟩:∃ W:World,W=w8.alloc (.cells #[.func (.func 71) #[] #[.pointer (some ⟨g7,0,none⟩),.pointer (some ⟨g8,0,none⟩),.pointer (some ⟨g3,0,none⟩),.pointer (some ⟨g4,0,none⟩),.pointer (some ⟨g5,0,none⟩)]] 92):=⟨_,rfl⟩
 have hA9:Below w8.heap.size w8 W9:=by rw [hW];exact bA (bR w8) _
 have HI9:=Lib.hid (show BlkI W9 g9 g10 g11 g12 t1 t2 t3 from ⟨HX9.out.keep (bT HB8.out hA9),HX10.out.keep (bT HB8.out hA9),HX11.out.keep (bT HB8.out hA9),g7,g8,g3,g4,g5,by rw [hW,← hg12];exact Blk.made rfl _ _,HT.out.keep hA9⟩)
 have X4:=HX42.out.keep (bT HB8.out hA9)
 have HB9:=Lib.hid (bT HB2.out (bT HB8.out hA9))
 have HX49:=Lib.hid X4
 rw [← hW,hg12]
 clear hW hg12 hst hA9 HX9 HX10 HX11 HT HB8 HB7 HB2 HX42
 try clear X4l
 try clear X4a
 try clear X4b
 try clear X4c
 obtain ⟨X4l,X4a,X4b,X4c,-,-,-⟩:=X4.facts3
 go_upto_block 0 with fail
 clear X4 X4l X4a X4b X4c
 go_wp2_with fail
 go_loopw [76] (fun u wr=>∃ k:Nat,k≤nn∧u=.int .i64 k∧(∀ j (hj:j<p.nodes.length),j<k→blk p.nodes[j].pt=false)∧Below W9.heap.size W9 wr) (fun u _=>nn-(intOf u).toNat)
 case atStart => exact ⟨0,Nat.zero_le _,rfl,(fun j _ h=>by omega),bR W9⟩
 case round =>
  obtain ⟨k,hk,rfl,hno,hb⟩:=hrel
  obtain ⟨wo,rfl⟩:∃ wo:World,wo=wr:=⟨_,rfl⟩
  have Hb:=Lib.hid hb;have HNo:=Lib.hid hno
  clear hb hno
  by_cases hlt:k<nn
  ·
   have hkp:k<p.nodes.length:=by rw [HNn.out];exact hlt
   obtain ⟨b,o,rfl,hlb,c0,c1,c2⟩:=(HRn.out.mono (bT HB9.out Hb.out)).nd hkp
   have HX:=Lib.hid (show p.nodes[k]=p.nodes[k] from rfl)
   have HF1:=Lib.hid (fun W (hW:Below wo.heap.size wo W)=>HFr.out p.nodes[k].pt g9 g10 g11 g12 W (HI9.out.keep (bT Hb.out hW)))
   obtain ⟨z,hz⟩:∃ z,blk p.nodes[k].pt=z:=⟨_,rfl⟩
   rw [hz] at HF1
   have HZ:=Lib.hid hz
   clear hz
   have k1:(k:Int)<nn:=by omega
   have k2:0≤(k:Int):=by omega
   go_upto_region 13 with fail
   obtain ⟨W10,hW⟩:∃ W:World,W=wo.alloc (.cells #[.int .i64 p.nodes[k].id,.int .i64 p.nodes[k].pt.x,.int .i64 p.nodes[k].pt.y] 38):=⟨_,rfl⟩
   have XN:Blk W10 wo.heap.size 38 #[.int .i64 p.nodes[k].id,.int .i64 p.nodes[k].pt.x,.int .i64 p.nodes[k].pt.y]:=by rw [hW];exact Blk.made rfl _ _
   have hA10:Below wo.heap.size wo W10:=by rw [hW];exact bA (bR wo) _
   have HA10:=Lib.hid hA10
   rw [← hW]
   clear hW hA10 c0 c1 c2
   obtain ⟨XNl,XNa,XNb,XNc,-,-,-⟩:=XN.facts3
   go_wp2_with fail
   refine (HF1.out _ HA10.out).mono ?_
   rintro e w11 ⟨rfl,hb11⟩
   have HB11:=Lib.hid (bT Hb.out (bT HA10.out hb11))
   clear hb11 XN XNl XNa XNb XNc HF1
   cases z
   case true =>
    have hf:R=false:=by
     rw [← HR.out,show (p.nodes.any fun n=>blk n.pt)=true from List.any_eq_true.2 ⟨_,List.getElem_mem hkp,HZ.out⟩]
     rfl
    subst hf
    go_wp2_with fail
    rw [Exit.noGoto_ret]
    go_ret
    exact ⟨rfl,bT HB9.out HB11.out⟩
   case false =>
    go_wp2_with fail
    go_roundw
    case rel => exact ⟨k+1,by omega,by go_num,(fun j hj hjk=>if e:j<k then HNo.out j hj e else by
     have:j=k:=by omega
     subst this
     exact HZ.out),HB11.out⟩
    case measure => simp [intOf];omega
  ·
   obtain rfl:k=nn:=by omega
   have hany:(p.nodes.any fun n=>blk n.pt)=false:=by
    rw [← Bool.not_eq_true,List.any_eq_true]
    rintro ⟨x,hx,e⟩
    obtain ⟨j,hj,rfl⟩:=List.mem_iff_getElem.1 hx
    rw [HNo.out j hj (by rw [HNn.out] at hj;exact hj)] at e
    cases e
   have hR:=HR.out
   rw [hany,Bool.not_false,Bool.true_and] at hR
   have HR':=Lib.hid hR
   have X4:=HX49.out.keep Hb.out
   have HBo:=Lib.hid (bT HB9.out Hb.out)
   have HIo:=Lib.hid (HI9.out.keep Hb.out)
   clear hany hR HR HNo hlt
   clear X4
   go_wp2_with fail
   go_step3
   go_upto_region 17 with fail
   have X4:=HX49.out.keep Hb.out
   try clear X4l
   try clear X4a
   try clear X4b
   try clear X4c
   obtain ⟨X4l,X4a,X4b,X4c,-,-,-⟩:=X4.facts3
   go_upto_block 2 with fail
   clear X4 X4l X4a X4b X4c
   go_cut [16] (fun u wx=>u=.bool (!(p.arcs.any fun b=>b.via.any blk))∧Below wo.heap.size wo wx)
   case first =>
    go_wp2_with fail
    go_loopw [16,88] (fun s u wr=>∃ m:Nat,m≤al.length∧u=.int .i64 m∧s=.bool true∧(∀ j (hj:j<p.arcs.length),j<m→p.arcs[j].via.any blk=false)∧Below wo.heap.size wo wr) (fun _ u _=>al.length-(intOf u).toNat)
    case atStart => exact ⟨0,Nat.zero_le _,rfl,rfl,(fun j _ h=>by omega),bR wo⟩
    case round =>
     obtain ⟨m,hm,rfl,rfl,hno,hb⟩:=hrel
     obtain ⟨wm,rfl⟩:∃ wm:World,wm=wr:=⟨_,rfl⟩
     have Hbm:=Lib.hid hb;have HNm:=Lib.hid hno
     clear hb hno
     by_cases hml:m<al.length
     ·
      have hmp:m<p.arcs.length:=by rw [← HAl.out];exact hml
      have hax:=Lib.hid (show p.arcs[m]=al[m].1 by
       have e:p.arcs[m]? = some al[m].1:=by rw [HPa'.out,List.getElem?_map,List.getElem?_eq_getElem hml];rfl
       rw [List.getElem?_eq_getElem hmp] at e
       exact Option.some.inj e)
      have hvm:=hvl _ (List.getElem_mem hmp)
      obtain ⟨b,o,rfl,hlb,c0,c1,c2,c3,c4,c5⟩:=(HRa.out.mono (bT HBo.out Hbm.out)).ar hml
      obtain ⟨Av,cv,hva,-,-,hRv⟩:=HVi.out m hml
      rw [hva] at c3
      rw [hax.out] at hvm
      have HStep:=Lib.hid (fun (hf:p.arcs[m].via.any blk=false) j (hj:j<p.arcs.length) (hjm:j<m+1)=>if e:j<m then HNm.out j hj e else show p.arcs[j].via.any blk=false from by
       have:j=m:=by omega
       subst this
       exact hf)
      have HHit:=Lib.hid (fun (hf:p.arcs[m].via.any blk=true)=>show (p.arcs.any fun b=>b.via.any blk)=true from List.any_eq_true.2 ⟨_,List.getElem_mem hmp,hf⟩)
      rw [hax.out] at HStep HHit
      have HRv:=Lib.hid hRv
      obtain ⟨y,hy⟩:∃ y,al[m]=y:=⟨_,rfl⟩
      rw [hy] at c0 c1 c2 c3 c4 c5 hvm HStep HHit HRv
      obtain ⟨⟨yid,yfr,ydst,V,ylf,yrt⟩,yv⟩:=y
      simp only at c0 c1 c2 c3 c4 c5 hvm HStep HHit HRv
      have k1:(m:Int)<al.length:=by omega
      have k2:0≤(m:Int):=by omega
      clear hy hva hRv hax
      go_upto_region 20 with fail
      obtain ⟨W10,hW⟩:∃ W:World,W=wm.alloc (.cells #[.int .i64 yid,.int .i64 yfr,.int .i64 ydst,.slice Av V.length cv,.int .i64 ylf,.int .i64 yrt] 41):=⟨_,rfl⟩
      have XN:Blk W10 wm.heap.size 41 #[.int .i64 yid,.int .i64 yfr,.int .i64 ydst,.slice Av V.length cv,.int .i64 ylf,.int .i64 yrt]:=by rw [hW];exact Blk.made rfl _ _
      have HA10:=Lib.hid (show Below wm.heap.size wm W10 by rw [hW];exact bA (bR wm) _)
      rw [← hW]
      clear hW c0 c1 c2 c3 c4 c5
      try clear XNl
      try clear XNa
      try clear XNb
      try clear XNc
      obtain ⟨XNl,XNa,XNb,XNc,XNd,XNe,XNf,-,-,-,-,-,-⟩:=XN.facts6
      go_upto_block 4 with fail
      clear XN XNl XNa XNb XNc XNd XNe XNf k1 k2
      go_wp2_with fail
      go_loopw [16,95] (fun s u wr=>∃ j:Nat,j≤V.length∧u=.int .i64 j∧s=.bool true∧(∀ i (hi:i<V.length),i<j→blk V[i]=false)∧Below W10.heap.size W10 wr) (fun _ u _=>V.length-(intOf u).toNat)
      case atStart => exact ⟨0,Nat.zero_le _,rfl,rfl,(fun j _ h=>by omega),bR W10⟩
      case round =>
       obtain ⟨j,hj,rfl,rfl,hno,hb⟩:=hrel
       obtain ⟨wj,rfl⟩:∃ wj:World,wj=wr:=⟨_,rfl⟩
       have Hbj:=Lib.hid (bT Hbm.out (bT HA10.out hb));have HNj:=Lib.hid hno;have Hbj':=Lib.hid hb
       clear hb hno
       by_cases hjl:j<V.length
       ·
        obtain ⟨bv,ov,rfl,hlv,d0,d1⟩:=HRv.out.pt hjl
        replace d0:=keepc (bT HB9.out (bT Hb.out Hbj.out)) d0
        replace d1:=keepc (bT HB9.out (bT Hb.out Hbj.out)) d1
        have hlvj:bv<wj.heap.size:=Nat.lt_of_lt_of_le hlv (bT HB9.out (bT Hb.out Hbj.out)).size
        have HF1:=Lib.hid (fun W (hW:Below wj.heap.size wj W)=>HFr.out V[j] g9 g10 g11 g12 W (HIo.out.keep (bT Hbj.out hW)))
        obtain ⟨z,hz⟩:∃ z,blk V[j]=z:=⟨_,rfl⟩
        rw [hz] at HF1
        have HZ:=Lib.hid hz
        have k3:(j:Int)<V.length:=by omega
        have k4:0≤(j:Int):=by omega
        clear hz
        obtain ⟨q,hq⟩:∃ q,V[j]=q:=⟨_,rfl⟩
        rw [hq] at HF1 d0 d1
        clear hq
        go_upto_region 23 with fail
        obtain ⟨W11,hW⟩:∃ W:World,W=wj.alloc (.cells #[.int .i64 q.x,.int .i64 q.y] 36):=⟨_,rfl⟩
        have XP:Blk W11 wj.heap.size 36 #[.int .i64 q.x,.int .i64 q.y]:=by rw [hW];exact Blk.made rfl _ _
        have HA11:=Lib.hid (show Below wj.heap.size wj W11 by rw [hW];exact bA (bR wj) _)
        rw [← hW]
        clear hW d0 d1
        obtain ⟨XPl,XPa,XPb,-,-⟩:=XP.facts2
        go_wp2_with fail
        refine (HF1.out _ HA11.out).mono ?_
        rintro e w12 ⟨rfl,hb12⟩
        have HB12:=Lib.hid (bT Hbj.out (bT HA11.out hb12));have HB12':=Lib.hid (bT Hbj'.out (bT HA11.out hb12))
        clear hb12 XP XPl XPa XPb HF1
        cases z
        case true =>
         have hh:=Lib.hid (HHit.out (List.any_eq_true.2 ⟨_,List.getElem_mem hjl,HZ.out⟩))
         go_wp2_with fail
         go_meet
         case rel => exact ⟨by rw [hh.out];rfl,HB12.out⟩
        case false =>
         go_wp2_with fail
         go_roundw
         case rel => exact ⟨j+1,by omega,by go_num,rfl,(fun i hi hij=>if e:i<j then HNj.out i hi e else by
          have:i=j:=by omega
          subst this
          exact HZ.out),HB12'.out⟩
         case measure => simp [intOf];omega
       ·
        obtain rfl:j=V.length:=by omega
        have hany:V.any blk=false:=by
         rw [← Bool.not_eq_true,List.any_eq_true]
         rintro ⟨x,hx,e⟩
         obtain ⟨j,hj,rfl⟩:=List.mem_iff_getElem.1 hx
         rw [HNj.out j hj hj] at e
         cases e
        have hs:=Lib.hid (HStep.out hany)
        clear hany
        go_wp2_with fail
        go_roundw
        case rel => exact ⟨m+1,by omega,by go_num,rfl,hs.out,Hbj.out⟩
        case measure => simp [intOf];omega
     ·
      obtain rfl:m=al.length:=by omega
      have hany:=Lib.hid (show (p.arcs.any fun b=>b.via.any blk)=false by
       rw [← Bool.not_eq_true,List.any_eq_true]
       rintro ⟨x,hx,e⟩
       obtain ⟨j,hj,rfl⟩:=List.mem_iff_getElem.1 hx
       rw [HNm.out j hj (by rw [HAl.out];exact hj)] at e
       cases e)
      go_wp2_with fail
      go_meet
      case rel => exact ⟨by rw [hany.out];rfl,Hbm.out⟩
   case rest =>
   obtain ⟨rfl,hbc⟩:=hcut
   have HBc:=Lib.hid hbc
   rw [HR'.out]
   clear hbc
   go_wp2_with fail
   rw [Exit.noGoto_ret]
   go_ret
   exact ⟨rfl,bT HBo.out HBc.out⟩
end Go.Proofs.YtnhdmghgjngcaaaGreat
