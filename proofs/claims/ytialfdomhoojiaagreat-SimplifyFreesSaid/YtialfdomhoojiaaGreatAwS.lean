import Derived.Test.YtialfdomhoojiaaGreatJ28
import Derived.Test.YtialfdomhoojiaaGreatJ01
import Derived.Test.YtialfdomhoojiaaGreatLawSf
set_option linter.unusedSimpArgs false
set_option linter.unusedVariables false
namespace Go.Proofs.YtialfdomhoojiaaGreat
open Go.RowKit
theorem dh.one {W:World} {v:Value} {p:Pl} {a:Ar} (h:dh W v p) (ha:p.au=[a]):∃ An nn cn b o c Af nf cf Av cv,v=.agg #[.slice An nn cn,.slice (some ⟨b,o,none⟩) 1 c,.slice Af nf cf]/\1<=c/\b<W.heap.size/\W.cell? ⟨b,o+3,none⟩=some (.slice Av a.via.length cv)/\bU W (.slice Av a.via.length cv) a.via:=by
 obtain ⟨_,_,_,al,rfl,he,⟨An,cn,rfl,-⟩,⟨⟨Aa,ca,rfl,h1,-,hR⟩,hV⟩,⟨Af,cf,rfl,-⟩⟩:=h;rw [ha] at he;obtain ⟨z,rfl⟩:∃ z,al=[z]:=by
  cases al with
  | nil=>simp at he
  | cons z l =>
   cases l with
   | nil=>exact ⟨z,rfl⟩
   | cons _ _=>simp at he
 obtain ⟨b,o,rfl,hb,-,-,-,c3,-,-⟩:=hR.ar (k:=0) (by simp);have hz:z.1=a:=by simpa using he.symm
 obtain ⟨Av,cv,hva,hv⟩:=hV 0 (by simp);simp only [List.getElem_cons_zero,Nat.zero_mul,Nat.add_zero] at c3 hva hv;rw [hz] at hva hv;rw [hva] at c3;exact ⟨_,_,_,b,o,ca,_,_,_,Av,cv,rfl,h1,hb,c3,Av,cv,rfl,hv⟩
theorem zQ (ns:List Nd) (h:ns.length<=100):jV (kC ns):=⟨by show ns.length+1<=1000000;omega,by show 1<=1000000;omega,fun a ha=>by
 have e:a=⟨1,1,1,Dc,1,0⟩:=List.mem_singleton.1 ha;subst e
 show 3<=1000000
 omega⟩
theorem Nl (ns:List Nd):∀ a∈(kC ns).au,cZ a.id:=fun a ha=>by
 have e:a=⟨1,1,1,Dc,1,0⟩:=List.mem_singleton.1 ha;subst e;unfold cZ;decide
theorem aa0 (via:List Pt) (nd:List Nd) (h:via.length<=100) (h':nd.length<=100):jV ⟨nd,[⟨3,1,2,via,0,0⟩],[]⟩:=⟨by show nd.length<=1000000;omega,by show 1<=1000000;omega,fun a ha=>by
 have e:a=⟨3,1,2,via,0,0⟩:=List.mem_singleton.1 ha;subst e
 show via.length<=1000000
 omega⟩
theorem aa1 (via:List Pt):∀ a∈[(⟨3,1,2,via,0,0⟩:Ar)],cZ a.id:=fun a ha=>by
 have e:a=⟨3,1,2,via,0,0⟩:=List.mem_singleton.1 ha;subst e
 show cZ 3
 unfold cZ;decide
set_option maxRecDepth 100000 in
set_option maxHeartbeats 8000000 in
theorem ai2:aaZ:=by
 intro w;have HQ:=Lib.hid aiN;go_enter Tryz.func37,Tryz.ntmps37;go_wp2_with fail;refine (HQ.out _ [] _ (Sl.nil _) (by simp)).mono ?_;rintro e w1 ⟨v1,rfl,hb1,hp1⟩;have HB1:=Lib.hid hb1;have yx:=Lib.hid hp1;clear hb1;obtain ⟨N1,n1,c1,b1,o1,d1,F1,m1,e1,V1,q1,rfl,-⟩:=hp1.one (a:=⟨1,1,1,Dc,1,0⟩) rfl;clear hp1;go_wp2_with fail;refine (HQ.out _ [⟨2,⟨7,2⟩⟩] _ (Sl.lit (n:=1) (ah.made rfl _ _) rfl (eG (by omega))) (by simp)).mono ?_;rintro e w2 ⟨v2,rfl,hb2,hp2⟩;obtain ⟨N2,n2,c2,b2,o2,d2,F2,m2,e2,V2,q2,rfl,-⟩:=hp2.one (a:=⟨1,1,1,Dc,1,0⟩) rfl;go_upto_region 2 with fail;obtain ⟨W3,hW⟩:∃ W:World,W=(w2.alloc (.cells #[.slice N1 n1 c1,.slice (some ⟨b1,o1,none⟩) 1 d1,.slice F1 m1 e1] 26)).alloc (.cells #[.slice N2 n2 c2,.slice (some ⟨b2,o2,none⟩) 1 d2,.slice F2 m2 e2] 26):=⟨_,rfl⟩;have T1:ah W3 w2.heap.size 26 #[.slice N1 n1 c1,.slice (some ⟨b1,o1,none⟩) 1 d1,.slice F1 m1 e1]:=by rw [hW];exact (ah.made rfl _ _).alloc _
 have T2:ah W3 (w2.heap.size+1) 26 #[.slice N2 n2 c2,.slice (some ⟨b2,o2,none⟩) 1 d2,.slice F2 m2 e2]:=by rw [hW];exact ah.made (by simp) _ _
 have hA:Below w2.heap.size w2 W3:=by rw [hW];exact bA (bA (bR w2) _) _
 have uP:=Lib.hid (yx.out.mono (bT (bA (bR w1) _) (bT hb2 hA)));have HQ2:=Lib.hid (hp2.mono hA);have HB3:=Lib.hid (bT HB1.out (bT (bA (bR w1) _) (bT hb2 hA)));rw [<- hW];clear hW hA hb2 hp2 yx HB1 HQ;obtain ⟨g1,hg1⟩:∃ g,w2.heap.size=g:=⟨_,rfl⟩;obtain ⟨g2,hg2⟩:∃ g,g1+1=g:=⟨_,rfl⟩;rw [hg1] at T1 T2 ⊢;rw [hg2] at T2 ⊢;clear hg1 hg2;have HT1:=Lib.hid T1;have HT2:=Lib.hid T2;have oJ:=Lib.hid (fun W (hW:Below W3.heap.size W3 W)=>Td _ (kC []) 100 W (uP.out.mono hW) (zQ [] (by simp)) (by show 1<=1000000;omega) (Nl []));have HS2:=Lib.hid (fun W (hW:Below W3.heap.size W3 W)=>Td _ (kC []) 101 W (uP.out.mono hW) (zQ [] (by simp)) (by show 1<=1000000;omega) (Nl []));have zI:=Lib.hid (fun W (hW:Below W3.heap.size W3 W)=>QK _ (kC []) 101 W (uP.out.mono hW) (zQ [] (by simp)) (Nl []));have HL2:=Lib.hid (fun W (hW:Below W3.heap.size W3 W)=>QK _ (kC []) 100 W (uP.out.mono hW) (zQ [] (by simp)) (Nl []));have pI:=Lib.hid (fun W (hW:Below W3.heap.size W3 W)=>Iq _ (kC []) 1 2 W (uP.out.mono hW) (zQ [] (by simp)));have HF2:=Lib.hid (fun W (hW:Below W3.heap.size W3 W)=>Iq _ (kC []) 1 3 W (uP.out.mono hW) (zQ [] (by simp)));have HF3:=Lib.hid (fun W (hW:Below W3.heap.size W3 W)=>Iq _ (kC [⟨2,⟨7,2⟩⟩]) 1 0 W (HQ2.out.mono hW) (zQ _ (by simp)));have MN:=Lib.hid (fun W (hW:Below W3.heap.size W3 W)=>Iq _ (kC [⟨2,⟨7,2⟩⟩]) 1 2 W (HQ2.out.mono hW) (zQ _ (by simp)));rw [aiC] at oJ;rw [aiD] at HS2;rw [aiE] at zI;rw [aiF] at HL2;rw [aiI] at pI;rw [aiJ] at HF2;rw [aiK] at HF3;rw [aiL] at MN;replace zI:=Lib.hid (show ∀ W,Below W3.heap.size W3 W->Calls Tryz.prog 40 #[.agg #[.slice N1 n1 c1,.slice (some ⟨b1,o1,none⟩) 1 d1,.slice F1 m1 e1],.int .i64 101] W fun e w'=>e=.returned (.tuple #[.int .i64 1,.int .i64 0,.int .i64 100,.bool true])/\Below W.heap.size W w' from zI.out);replace HL2:=Lib.hid (show ∀ W,Below W3.heap.size W3 W->Calls Tryz.prog 40 #[.agg #[.slice N1 n1 c1,.slice (some ⟨b1,o1,none⟩) 1 d1,.slice F1 m1 e1],.int .i64 100] W fun e w'=>e=.returned (.tuple #[.int .i64 0,.int .i64 0,.int .i64 0,.bool false])/\Below W.heap.size W w' from HL2.out);clear T2;obtain ⟨lq,lu,lC,lD,-,-,-⟩:=T1.aJ;go_wp2_with fail;refine (oJ.out _ (bR _)).mono ?_;rintro e w4 ⟨vx,rfl,hb4,hpx⟩;obtain ⟨N3,n3,c3,b3,o3,d3,F3,m3,e3,V3,q3,rfl,-⟩:=hpx.one (a:=⟨1,1,1,Dc,1,0⟩) rfl;go_upto_region 3 with fail;obtain ⟨W5,hW⟩:∃ W:World,W=w4.alloc (.cells #[.slice N3 n3 c3,.slice (some ⟨b3,o3,none⟩) 1 d3,.slice F3 m3 e3] 26):=⟨_,rfl⟩;have T3:ah W5 w4.heap.size 26 #[.slice N3 n3 c3,.slice (some ⟨b3,o3,none⟩) 1 d3,.slice F3 m3 e3]:=by rw [hW];exact ah.made rfl _ _
 have hA:Below w4.heap.size w4 W5:=by rw [hW];exact bA (bR w4) _
 have IL:=Lib.hid (hpx.mono hA);have cO:=Lib.hid (bT hb4 hA);rw [<- hW];clear hW hA hb4 hpx oJ T1 lq lu lC lD;obtain ⟨g3,hg3⟩:∃ g,w4.heap.size=g:=⟨_,rfl⟩;rw [hg3] at T3 ⊢;clear hg3;have HT3:=Lib.hid T3;have T1:=HT1.out.keep cO.out;clear T3
 try clear lq
 try clear lu
 try clear lC
 try clear lD
 obtain ⟨lq,lu,lC,lD,-,-,-⟩:=T1.aJ;go_wp2_with fail;refine (HS2.out _ cO.out).mono ?_;rintro e w6 ⟨vy,rfl,hb6,hpy⟩;obtain ⟨N4,n4,c4,b4,o4,d4,F4,m4,e4,V4,q4,rfl,hd4,hb4,hc4,hv4⟩:=hpy.one (a:=⟨1,1,1,[⟨10,10⟩,⟨0,10⟩],1,0⟩) rfl;go_upto_region 4 with fail;obtain ⟨W7,hW⟩:∃ W:World,W=w6.alloc (.cells #[.slice N4 n4 c4,.slice (some ⟨b4,o4,none⟩) 1 d4,.slice F4 m4 e4] 26):=⟨_,rfl⟩;have T5:ah W7 w6.heap.size 26 #[.slice N4 n4 c4,.slice (some ⟨b4,o4,none⟩) 1 d4,.slice F4 m4 e4]:=by rw [hW];exact ah.made rfl _ _
 have hA:Below w6.heap.size w6 W7:=by rw [hW];exact bA (bR w6) _
 have HY:=Lib.hid (show ∀ W,Below W7.heap.size W7 W->b4<W.heap.size/\W.cell? ⟨b4,o4+3,none⟩=some (.slice V4 2 q4)/\bU W (.slice V4 2 q4) [⟨10,10⟩,⟨0,10⟩] from fun W hW=>by
  have hh:=bT hA hW;exact ⟨Nat.lt_of_lt_of_le hb4 hh.size,(hh.cell hb4).trans hc4,hv4.mono hh⟩)
 have jT:=Lib.hid (bT cO.out (bT hb6 hA));have aa2:=Lib.hid (bT hb6 hA);rw [<- hW];clear hW hA hb6 hpy HS2 T1 lq lu lC lD hb4 hc4 hv4;obtain ⟨g5,hg5⟩:∃ g,w6.heap.size=g:=⟨_,rfl⟩;rw [hg5] at T5 ⊢;clear hg5;have HT5:=Lib.hid T5;have T1:=HT1.out.keep jT.out;clear T5
 try clear lq
 try clear lu
 try clear lC
 try clear lD
 obtain ⟨lq,lu,lC,lD,-,-,-⟩:=T1.aJ;go_wp2_with fail;refine (zI.out _ jT.out).mono ?_;rintro e w8 ⟨rfl,hb8⟩;have ku:=Lib.hid (bT jT.out hb8);have aa3:=Lib.hid hb8;clear hb8 T1 lq lu lC lD;have T1:=HT1.out.keep ku.out
 try clear lq
 try clear lu
 try clear lC
 try clear lD
 obtain ⟨lq,lu,lC,lD,-,-,-⟩:=T1.aJ;go_wp2_with fail;refine (HL2.out _ ku.out).mono ?_;rintro e w9 ⟨rfl,su⟩;have ai3:=Lib.hid (bT aa3.out su);clear su T1 lq lu lC lD aa3 ku zI HL2;go_upto_region 7 with fail;obtain ⟨nJ,hW⟩:∃ W:World,W=(((w9.alloc (.cells #[.int .i64 1,.int .i64 0,.int .i64 0,.int .i64 2,.int .i64 12,.int .i64 0] 45)).alloc (.cells #[.int .i64 4,.int .i64 1,.int .i64 8,.int .i64 0] 39)).alloc (.cells #[.int .i64 3,.int .i64 1,.int .i64 2,.slice (some ⟨w9.heap.size+1,0,none⟩) 2 2,.int .i64 0,.int .i64 0] 50)).alloc (.cells #[.slice (some ⟨w9.heap.size,0,none⟩) 2 2,.slice (some ⟨w9.heap.size+1+1,0,none⟩) 1 1,.slice none 0 0] 26):=⟨_,rfl⟩;have hn0:ah nJ w9.heap.size 45 #[.int .i64 1,.int .i64 0,.int .i64 0,.int .i64 2,.int .i64 12,.int .i64 0]:=by rw [hW];exact (((ah.made rfl _ _).alloc _).alloc _).alloc _
 have hv0:ah nJ (w9.heap.size+1) 39 #[.int .i64 4,.int .i64 1,.int .i64 8,.int .i64 0]:=by rw [hW];exact ((ah.made (by simp) _ _).alloc _).alloc _
 have ha0:ah nJ (w9.heap.size+1+1) 50 #[.int .i64 3,.int .i64 1,.int .i64 2,.slice (some ⟨w9.heap.size+1,0,none⟩) 2 2,.int .i64 0,.int .i64 0]:=by rw [hW];exact (ah.made (by simp) _ _).alloc _
 have T15:ah nJ (w9.heap.size+1+1+1) 26 #[.slice (some ⟨w9.heap.size,0,none⟩) 2 2,.slice (some ⟨w9.heap.size+1+1,0,none⟩) 1 1,.slice none 0 0]:=by rw [hW];exact ah.made (by simp) _ _
 have hA:Below w9.heap.size w9 nJ:=by rw [hW];exact bA (bA (bA (bA (bR w9) _) _) _) _
 have hP:dh nJ (.agg #[.slice (some ⟨w9.heap.size,0,none⟩) 2 2,.slice (some ⟨w9.heap.size+1+1,0,none⟩) 1 1,.slice none 0 0]) Ti:=dh.blocks (al:=[(⟨3,1,2,[⟨4,1⟩,⟨8,0⟩],0,0⟩,.slice (some ⟨w9.heap.size+1,0,none⟩) 2 2)]) rfl (Sl.lit (n:=2) hn0 rfl (eG (by omega))) (Sl.lit (n:=1) ha0 rfl (eG (by omega))) (aaS (Sl.lit (n:=2) hv0 rfl (eG (by omega)))) (Sl.nil _);have aa4:=Lib.hid (bT ai3.out hA);rw [<- hW];obtain ⟨k1,hk1⟩:∃ g,w9.heap.size+1+1=g:=⟨_,rfl⟩;obtain ⟨k2,hk2⟩:∃ g,k1+1=g:=⟨_,rfl⟩;obtain ⟨k0,hk0⟩:∃ g,w9.heap.size=g:=⟨_,rfl⟩;rw [hk1] at hP;rw [hk1,hk2] at T15;rw [hk0] at hP T15
 try rw [hk1]
 try rw [hk2]
 try rw [hk0]
 clear hW hA hn0 hv0 ha0 hk1 hk2 hk0;have ai4:=Lib.hid T15;have vO:=Lib.hid (Td _ Ti 9 nJ hP (aa0 _ _ (by simp) (by simp)) (by show 0<=1000000;omega) (aa1 _));rw [aiG] at vO;clear hP;obtain ⟨ai5,ai6,ai7,ai8,-,-,-⟩:=T15.aJ;go_wp2_with fail;refine vO.out.mono ?_;rintro e yU ⟨vz,rfl,yV,hpz⟩;obtain ⟨N5,n5,c5,b5,o5,d5,F5,m5,e5,V5,q5,rfl,hd5,hb5,hc5,hv5⟩:=hpz.one (a:=⟨3,1,2,[⟨4,1⟩],0,0⟩) rfl;clear vO T15 ai5 ai6 ai7 ai8 ai4;go_upto_region 8 with fail;obtain ⟨bZ,hW⟩:∃ W:World,W=yU.alloc (.cells #[.slice N5 n5 c5,.slice (some ⟨b5,o5,none⟩) 1 d5,.slice F5 m5 e5] 26):=⟨_,rfl⟩;have vV:ah bZ yU.heap.size 26 #[.slice N5 n5 c5,.slice (some ⟨b5,o5,none⟩) 1 d5,.slice F5 m5 e5]:=by rw [hW];exact ah.made rfl _ _
 have hA:Below yU.heap.size yU bZ:=by rw [hW];exact bA (bR yU) _
 have HZ:=Lib.hid (show ∀ W,Below bZ.heap.size bZ W->b5<W.heap.size/\W.cell? ⟨b5,o5+3,none⟩=some (.slice V5 1 q5)/\bU W (.slice V5 1 q5) [⟨4,1⟩] from fun W hW=>by
  have hh:=bT hA hW;exact ⟨Nat.lt_of_lt_of_le hb5 hh.size,(hh.cell hb5).trans hc5,hv5.mono hh⟩)
 have iG:=Lib.hid (aiz _ Nh 9 bZ (hpz.mono hA) (aa0 _ _ (by simp) (by simp)) (by show 0<=1000000;omega) (aa1 _));rw [aiH] at iG;have aa5:=Lib.hid (bT aa4.out (bT yV hA));rw [<- hW];obtain ⟨g16,aa6⟩:∃ g,yU.heap.size=g:=⟨_,rfl⟩;rw [aa6] at vV ⊢;clear hW hA yV hpz hb5 hc5 hv5 aa6 aa4;have aa7:=Lib.hid vV;obtain ⟨Di,Dj,Dk,Dl,-,-,-⟩:=vV.aJ;go_wp2_with fail;refine iG.out.mono ?_;rintro e Np ⟨vs,rfl,aa8,hps⟩;obtain ⟨N6,n6,c6,b6,o6,d6,F6,m6,e6,V6,q6,rfl,-⟩:=hps.one (a:=⟨3,1,2,[⟨4,1⟩],0,0⟩) rfl;clear iG vV Di Dj Dk Dl hps;go_upto_region 9 with fail;obtain ⟨W14,hW⟩:∃ W:World,W=Np.alloc (.cells #[.slice N6 n6 c6,.slice (some ⟨b6,o6,none⟩) 1 d6,.slice F6 m6 e6] 26):=⟨_,rfl⟩;have hA:Below Np.heap.size Np W14:=by rw [hW];exact bA (bR Np) _
 have TK:=Lib.hid (bT aa8 hA);have I8:=Lib.hid (bT aa5.out TK.out);rw [<- hW];clear hW hA aa8;have Nj:=Lib.hid (fun W (hW:Below W7.heap.size W7 W)=>aiO _ _ (kC []) W (IL.out.mono (bT aa2.out hW)) (uP.out.mono (bT jT.out hW)));have T1:=HT1.out.keep (bT jT.out I8.out);have T3:=HT3.out.keep (bT aa2.out I8.out)
 try clear lq
 try clear lu
 try clear lC
 try clear lD
 obtain ⟨lq,lu,lC,lD,-,-,-⟩:=T1.aJ;obtain ⟨T3l,T3a,T3b,T3c,-,-,-⟩:=T3.aJ;go_wp2_with fail;refine (Nj.out _ I8.out).mono ?_;rintro e w15 ⟨rfl,TQ⟩;have Nq:=Lib.hid (bT I8.out TQ);have TR:=Lib.hid (bT TK.out TQ);clear TQ T1 lq lu lC lD T3 T3l T3a T3b T3c Nj I8 TK aa5;have T5:=HT5.out.keep Nq.out;have vV:=aa7.out.keep TR.out;obtain ⟨T5l,T5a,T5b,T5c,-,-,-⟩:=T5.aJ
 try clear Di
 try clear Dj
 try clear Dk
 try clear Dl
 obtain ⟨Di,Dj,Dk,Dl,-,-,-⟩:=vV.aJ;obtain ⟨y1,y2,y3⟩:=HY.out _ Nq.out;have HPy:=Lib.hid y3;clear y3;go_wp2_with fail;refine (NV _ _ [⟨10,10⟩,⟨0,10⟩] [⟨10,10⟩,⟨0,10⟩] _ (HPy.out.mono (bA (bR _) _)) (Sl.lit (n:=2) (ah.made rfl _ _) rfl (eG (by omega)))).mono ?_;rintro e w16 ⟨rfl,hb16⟩;rw [decide_eq_true rfl];have aa9:=Lib.hid (bT Nq.out (bT (bA (bR _) _) hb16));have TU:=Lib.hid (bT TR.out (bT (bA (bR _) _) hb16));clear hb16 T5 T5l T5a T5b T5c vV Di Dj Dk Dl y1 y2 HPy Nq TR HY;have vV:=aa7.out.keep TU.out
 try clear Di
 try clear Dj
 try clear Dk
 try clear Dl
 obtain ⟨Di,Dj,Dk,Dl,-,-,-⟩:=vV.aJ;obtain ⟨z1,z2,z3⟩:=HZ.out _ TU.out;have HPz:=Lib.hid z3;clear z3;go_wp2_with fail;refine (NV _ _ [⟨4,1⟩] [⟨4,1⟩] _ (HPz.out.mono (bA (bR _) _)) (Sl.lit (n:=1) (ah.made rfl _ _) rfl (eG (by omega)))).mono ?_;rintro e w17 ⟨rfl,abb⟩;rw [decide_eq_true rfl];have abd:=Lib.hid (bT aa9.out (bT (bA (bR _) _) abb));clear abb vV Di Dj Dk Dl z1 z2 HPz TU HZ aa9;have Nr:=Lib.hid (bT jT.out abd.out);have T1:=HT1.out.keep Nr.out
 try clear lq
 try clear lu
 try clear lC
 try clear lD
 obtain ⟨lq,lu,lC,lD,-,-,-⟩:=T1.aJ;go_wp2_with fail;refine (pI.out _ Nr.out).mono ?_;rintro e w18 ⟨rfl,abe⟩;have Ns:=Lib.hid (bT Nr.out abe);clear abe T1 lq lu lC lD Nr abd;have T1:=HT1.out.keep Ns.out
 try clear lq
 try clear lu
 try clear lC
 try clear lD
 obtain ⟨lq,lu,lC,lD,-,-,-⟩:=T1.aJ;go_wp2_with fail;refine (HF2.out _ Ns.out).mono ?_;rintro e w19 ⟨rfl,abf⟩;have Nu:=Lib.hid (bT Ns.out abf);clear abf T1 lq lu lC lD Ns;have T2:=HT2.out.keep Nu.out;obtain ⟨TV,TY,Ua,Ub,-,-,-⟩:=T2.aJ;go_wp2_with fail;refine (HF3.out _ Nu.out).mono ?_;rintro e w20 ⟨rfl,abg⟩;have Uc:=Lib.hid (bT Nu.out abg);clear abg T2 TV TY Ua Ub Nu;have T2:=HT2.out.keep Uc.out
 try clear TV
 try clear TY
 try clear Ua
 try clear Ub
 obtain ⟨TV,TY,Ua,Ub,-,-,-⟩:=T2.aJ;go_wp2_with fail;refine (MN.out _ Uc.out).mono ?_;rintro e w21 ⟨rfl,abh⟩;have HBe:=Lib.hid (bT HB3.out (bT Uc.out abh));clear abh;go_wp2_with fail;go_ret;exact ⟨rfl,HBe.out⟩
end Go.Proofs.YtialfdomhoojiaaGreat
