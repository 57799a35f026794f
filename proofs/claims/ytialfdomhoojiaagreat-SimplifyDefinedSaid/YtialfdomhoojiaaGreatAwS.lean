import Derived.Test.YtialfdomhoojiaaGreatJ35
import Derived.Test.YtialfdomhoojiaaGreatLawSf
set_option linter.unusedSimpArgs false
set_option linter.unusedVariables false
set_option maxRecDepth 100000
set_option maxHeartbeats 8000000
namespace Go.Proofs.YtialfdomhoojiaaGreat
open Go.RowKit
theorem bQ.one {W:World} {v:Value} {p:Pl} {a:Ar} (h:bQ W v p) (ha:p.aj=[a]):∃ An nn cn b o c Af nf cf Av cv,v=.agg #[.slice An nn cn,.slice (some ⟨b,o,none⟩) 1 c,.slice Af nf cf]/\1<=c/\b<W.heap.size/\W.cell? ⟨b,o+3,none⟩=some (.slice Av a.via.length cv)/\dM W (.slice Av a.via.length cv) a.via:=by
 obtain ⟨_,_,_,al,rfl,he,⟨An,cn,rfl,-⟩,⟨⟨Aa,ca,rfl,h1,-,hR⟩,hV⟩,⟨Af,cf,rfl,-⟩⟩:=h;rw [ha] at he;obtain ⟨z,rfl⟩:∃ z,al=[z]:=by
  cases al with
  | nil=>simp at he
  | cons z l =>
   cases l with
   | nil=>exact ⟨z,rfl⟩
   | cons _ _=>simp at he
 obtain ⟨b,o,rfl,hb,-,-,-,c3,-,-⟩:=hR.ar (k:=0) ars;have hz:z.1=a:=by simpa using he.symm
 obtain ⟨Av,cv,hva,hv⟩:=hV 0 ars;simp only [List.getElem_cons_zero,Nat.zero_mul,Nat.add_zero] at c3 hva hv;rw [hz] at hva hv;rw [hva] at c3;exact ⟨_,_,_,b,o,ca,_,_,_,Av,cv,rfl,h1,hb,c3,Av,cv,rfl,hv⟩
theorem JZ (ns:List Nd) (h:ns.length<=100):mF (qg ns):=⟨by show ns.length+1<=1000000;omega,by show 1<=1000000;omega,fun a ha=>by
 have e:a=⟨1,1,1,MK,1,0⟩:=avY.1 ha;subst e
 show 3<=1000000
 omega⟩
theorem Yy (ns:List Nd):∀ a∈(qg ns).aj,eU a.id:=fun a ha=>by
 have e:a=⟨1,1,1,MK,1,0⟩:=avY.1 ha;subst e;unfold eU;decide
theorem ai4 (via:List Pt) (nd:List Nd) (h:via.length<=100) (h':nd.length<=100):mF ⟨nd,[⟨3,1,2,via,0,0⟩],[]⟩:=⟨by show nd.length<=1000000;omega,by show 1<=1000000;omega,fun a ha=>by
 have e:a=⟨3,1,2,via,0,0⟩:=avY.1 ha;subst e
 show via.length<=1000000
 omega⟩
theorem ai5 (via:List Pt):∀ a∈[(⟨3,1,2,via,0,0⟩:Ar)],eU a.id:=fun a ha=>by
 have e:a=⟨3,1,2,via,0,0⟩:=avY.1 ha;subst e
 show eU 3
 unfold eU;decide
theorem ai6:atw:=by
 intro w;have HQ:=avE atv;go_enter Tryz.func37,Tryz.ntmps37;go_wp2_with fail;refine (HQ.out _ [] _ (Sl.nil _) ars).mono ?_;rintro e w1 ⟨v1,rfl,hb1,hp1⟩;have HB1:=avE hb1;have Io:=avE hp1;clear hb1;obtain ⟨N1,n1,c1,b1,o1,d1,F1,m1,e1,V1,q1,rfl,-⟩:=hp1.one (a:=⟨1,1,1,MK,1,0⟩) rfl;clear hp1;go_wp2_with fail;refine (HQ.out _ [⟨2,⟨7,2⟩⟩] _ (Sl.lit (n:=1) (ah.made rfl _ _) rfl (dP Pe)) ars).mono ?_;rintro e w2 ⟨v2,rfl,hb2,hp2⟩;obtain ⟨N2,n2,c2,b2,o2,d2,F2,m2,e2,V2,q2,rfl,-⟩:=hp2.one (a:=⟨1,1,1,MK,1,0⟩) rfl;go_upto_region 2 with fail;obtain ⟨W3,hW⟩:∃ W:World,W=(w2.alloc (.cells #[.slice N1 n1 c1,.slice (some ⟨b1,o1,none⟩) 1 d1,.slice F1 m1 e1] 26)).alloc (.cells #[.slice N2 n2 c2,.slice (some ⟨b2,o2,none⟩) 1 d2,.slice F2 m2 e2] 26):=⟨_,rfl⟩;have T1:ah W3 w2.heap.size 26 #[.slice N1 n1 c1,.slice (some ⟨b1,o1,none⟩) 1 d1,.slice F1 m1 e1]:=by rw [hW];exact (ah.made rfl _ _).alloc _
 have T2:ah W3 (w2.heap.size+1) 26 #[.slice N2 n2 c2,.slice (some ⟨b2,o2,none⟩) 1 d2,.slice F2 m2 e2]:=by rw [hW];exact ah.made ars _ _
 have hA:Below w2.heap.size w2 W3:=by rw [hW];exact bA (bA (bR w2) _) _
 have uS:=avE (Io.out.mono (bT (bA (bR w1) _) (bT hb2 hA)));have Jv:=avE (hp2.mono hA);have HB3:=avE (bT HB1.out (bT (bA (bR w1) _) (bT hb2 hA)));rw [<- hW];clear hW hA hb2 hp2 Io HB1 HQ;obtain ⟨g1,hg1⟩:∃ g,w2.heap.size=g:=⟨_,rfl⟩;obtain ⟨g2,hg2⟩:∃ g,g1+1=g:=⟨_,rfl⟩;rw [hg1] at T1 T2 ⊢;rw [hg2] at T2 ⊢;clear hg1 hg2;have HT1:=avE T1;have HT2:=avE T2;have nM:=avE (fun W (hW:Below W3.heap.size W3 W)=>Yj _ (qg []) 100 W (uS.out.mono hW) (JZ [] ars) (by show 1<=1000000;omega) (Yy []));have HS2:=avE (fun W (hW:Below W3.heap.size W3 W)=>Yj _ (qg []) 101 W (uS.out.mono hW) (JZ [] ars) (by show 1<=1000000;omega) (Yy []));have rD:=avE (fun W (hW:Below W3.heap.size W3 W)=>WI _ (qg []) 101 W (uS.out.mono hW) (JZ [] ars) (Yy []));have HL2:=avE (fun W (hW:Below W3.heap.size W3 W)=>WI _ (qg []) 100 W (uS.out.mono hW) (JZ [] ars) (Yy []));have DN:=avE (fun W (hW:Below W3.heap.size W3 W)=>WE _ (qg []) 1 2 W (uS.out.mono hW) (JZ [] ars));have HF2:=avE (fun W (hW:Below W3.heap.size W3 W)=>WE _ (qg []) 1 3 W (uS.out.mono hW) (JZ [] ars));have HF3:=avE (fun W (hW:Below W3.heap.size W3 W)=>WE _ (qg [⟨2,⟨7,2⟩⟩]) 1 0 W (Jv.out.mono hW) (JZ _ ars));have XE:=avE (fun W (hW:Below W3.heap.size W3 W)=>WE _ (qg [⟨2,⟨7,2⟩⟩]) 1 2 W (Jv.out.mono hW) (JZ _ ars));rw [ati] at nM;rw [atj] at HS2;rw [atl] at rD;rw [atm] at HL2;rw [atp] at DN;rw [atq] at HF2;rw [atr] at HF3;rw [att] at XE;replace rD:=avE (show ∀ W,Below W3.heap.size W3 W->Calls Tryz.prog 40 #[.agg #[.slice N1 n1 c1,.slice (some ⟨b1,o1,none⟩) 1 d1,.slice F1 m1 e1],.int .i64 101] W fun e w'=>e=.returned (.tuple #[.int .i64 1,.int .i64 0,.int .i64 100,.bool true])/\Below W.heap.size W w' from rD.out);replace HL2:=avE (show ∀ W,Below W3.heap.size W3 W->Calls Tryz.prog 40 #[.agg #[.slice N1 n1 c1,.slice (some ⟨b1,o1,none⟩) 1 d1,.slice F1 m1 e1],.int .i64 100] W fun e w'=>e=.returned (.tuple #[.int .i64 0,.int .i64 0,.int .i64 0,.bool false])/\Below W.heap.size W w' from HL2.out);clear T2;obtain ⟨qR,qU,qV,qW,-,-,-⟩:=T1.aF;go_wp2_with fail;refine (nM.out _ (bR _)).mono ?_;rintro e w4 ⟨vx,rfl,hb4,hpx⟩;obtain ⟨N3,n3,c3,b3,o3,d3,F3,m3,e3,V3,q3,rfl,-⟩:=hpx.one (a:=⟨1,1,1,MK,1,0⟩) rfl;go_upto_region 3 with fail;obtain ⟨W5,hW⟩:∃ W:World,W=w4.alloc (.cells #[.slice N3 n3 c3,.slice (some ⟨b3,o3,none⟩) 1 d3,.slice F3 m3 e3] 26):=⟨_,rfl⟩;have T3:ah W5 w4.heap.size 26 #[.slice N3 n3 c3,.slice (some ⟨b3,o3,none⟩) 1 d3,.slice F3 m3 e3]:=by rw [hW];exact ah.made rfl _ _
 have hA:Below w4.heap.size w4 W5:=by rw [hW];exact bA (bR w4) _
 have SY:=avE (hpx.mono hA);have bC:=avE (bT hb4 hA);rw [<- hW];clear hW hA hb4 hpx nM T1 qR qU qV qW;obtain ⟨g3,hg3⟩:∃ g,w4.heap.size=g:=⟨_,rfl⟩;rw [hg3] at T3 ⊢;clear hg3;have HT3:=avE T3;have T1:=HT1.out.keep bC.out;clear T3
 try clear qR
 try clear qU
 try clear qV
 try clear qW
 obtain ⟨qR,qU,qV,qW,-,-,-⟩:=T1.aF;go_wp2_with fail;refine (HS2.out _ bC.out).mono ?_;rintro e w6 ⟨vy,rfl,hb6,hpy⟩;obtain ⟨N4,n4,c4,b4,o4,d4,F4,m4,e4,V4,q4,rfl,hd4,hb4,hc4,hv4⟩:=hpy.one (a:=⟨1,1,1,[⟨10,10⟩,⟨0,10⟩],1,0⟩) rfl;go_upto_region 4 with fail;obtain ⟨W7,hW⟩:∃ W:World,W=w6.alloc (.cells #[.slice N4 n4 c4,.slice (some ⟨b4,o4,none⟩) 1 d4,.slice F4 m4 e4] 26):=⟨_,rfl⟩;have T5:ah W7 w6.heap.size 26 #[.slice N4 n4 c4,.slice (some ⟨b4,o4,none⟩) 1 d4,.slice F4 m4 e4]:=by rw [hW];exact ah.made rfl _ _
 have hA:Below w6.heap.size w6 W7:=by rw [hW];exact bA (bR w6) _
 have HY:=avE (show ∀ W,Below W7.heap.size W7 W->b4<W.heap.size/\W.cell? ⟨b4,o4+3,none⟩=some (.slice V4 2 q4)/\dM W (.slice V4 2 q4) [⟨10,10⟩,⟨0,10⟩] from fun W hW=>by
  have hh:=bT hA hW;exact ⟨awf hb4 hh.size,(hh.cell hb4).trans hc4,hv4.mono hh⟩)
 have gW:=avE (bT bC.out (bT hb6 hA));have ai7:=avE (bT hb6 hA);rw [<- hW];clear hW hA hb6 hpy HS2 T1 qR qU qV qW hb4 hc4 hv4;obtain ⟨g5,hg5⟩:∃ g,w6.heap.size=g:=⟨_,rfl⟩;rw [hg5] at T5 ⊢;clear hg5;have HT5:=avE T5;have T1:=HT1.out.keep gW.out;clear T5
 try clear qR
 try clear qU
 try clear qV
 try clear qW
 obtain ⟨qR,qU,qV,qW,-,-,-⟩:=T1.aF;go_wp2_with fail;refine (rD.out _ gW.out).mono ?_;rintro e w8 ⟨rfl,hb8⟩;have jl:=avE (bT gW.out hb8);have ai8:=avE hb8;clear hb8 T1 qR qU qV qW;have T1:=HT1.out.keep jl.out
 try clear qR
 try clear qU
 try clear qV
 try clear qW
 obtain ⟨qR,qU,qV,qW,-,-,-⟩:=T1.aF;go_wp2_with fail;refine (HL2.out _ jl.out).mono ?_;rintro e w9 ⟨rfl,qh⟩;have atx:=avE (bT ai8.out qh);clear qh T1 qR qU qV qW ai8 jl rD HL2;go_upto_region 7 with fail;obtain ⟨uZ,hW⟩:∃ W:World,W=(((w9.alloc (.cells #[.int .i64 1,.int .i64 0,.int .i64 0,.int .i64 2,.int .i64 12,.int .i64 0] 45)).alloc (.cells #[.int .i64 4,.int .i64 1,.int .i64 8,.int .i64 0] 39)).alloc (.cells #[.int .i64 3,.int .i64 1,.int .i64 2,.slice (some ⟨w9.heap.size+1,0,none⟩) 2 2,.int .i64 0,.int .i64 0] 50)).alloc (.cells #[.slice (some ⟨w9.heap.size,0,none⟩) 2 2,.slice (some ⟨w9.heap.size+1+1,0,none⟩) 1 1,.slice none 0 0] 26):=⟨_,rfl⟩;have hn0:ah uZ w9.heap.size 45 #[.int .i64 1,.int .i64 0,.int .i64 0,.int .i64 2,.int .i64 12,.int .i64 0]:=by rw [hW];exact (((ah.made rfl _ _).alloc _).alloc _).alloc _
 have hv0:ah uZ (w9.heap.size+1) 39 #[.int .i64 4,.int .i64 1,.int .i64 8,.int .i64 0]:=by rw [hW];exact ((ah.made ars _ _).alloc _).alloc _
 have ha0:ah uZ (w9.heap.size+1+1) 50 #[.int .i64 3,.int .i64 1,.int .i64 2,.slice (some ⟨w9.heap.size+1,0,none⟩) 2 2,.int .i64 0,.int .i64 0]:=by rw [hW];exact (ah.made ars _ _).alloc _
 have T15:ah uZ (w9.heap.size+1+1+1) 26 #[.slice (some ⟨w9.heap.size,0,none⟩) 2 2,.slice (some ⟨w9.heap.size+1+1,0,none⟩) 1 1,.slice none 0 0]:=by rw [hW];exact ah.made ars _ _
 have hA:Below w9.heap.size w9 uZ:=by rw [hW];exact bA (bA (bA (bA (bR w9) _) _) _) _
 have hP:bQ uZ (.agg #[.slice (some ⟨w9.heap.size,0,none⟩) 2 2,.slice (some ⟨w9.heap.size+1+1,0,none⟩) 1 1,.slice none 0 0]) acR:=bQ.blocks (al:=[(⟨3,1,2,[⟨4,1⟩,⟨8,0⟩],0,0⟩,.slice (some ⟨w9.heap.size+1,0,none⟩) 2 2)]) rfl (Sl.lit (n:=2) hn0 rfl (dP Pe)) (Sl.lit (n:=1) ha0 rfl (dP Pe)) (aiJ (Sl.lit (n:=2) hv0 rfl (dP Pe))) (Sl.nil _);have ai9:=avE (bT atx.out hA);rw [<- hW];obtain ⟨k1,hk1⟩:∃ g,w9.heap.size+1+1=g:=⟨_,rfl⟩;obtain ⟨k2,hk2⟩:∃ g,k1+1=g:=⟨_,rfl⟩;obtain ⟨k0,hk0⟩:∃ g,w9.heap.size=g:=⟨_,rfl⟩;rw [hk1] at hP;rw [hk1,hk2] at T15;rw [hk0] at hP T15
 try rw [hk1]
 try rw [hk2]
 try rw [hk0]
 clear hW hA hn0 hv0 ha0 hk1 hk2 hk0;have aty:=avE T15;have wW:=avE (Yj _ acR 9 uZ hP (ai4 _ _ ars ars) (by show 0<=1000000;omega) (ai5 _));rw [atn] at wW;clear hP;obtain ⟨atz,atA,atB,atC,-,-,-⟩:=T15.aF;go_wp2_with fail;refine wW.out.mono ?_;rintro e Jc ⟨vz,rfl,Jd,hpz⟩;obtain ⟨N5,n5,c5,b5,o5,d5,F5,m5,e5,V5,q5,rfl,hd5,hb5,hc5,hv5⟩:=hpz.one (a:=⟨3,1,2,[⟨4,1⟩],0,0⟩) rfl;clear wW T15 atz atA atB atC aty;go_upto_region 8 with fail;obtain ⟨gu,hW⟩:∃ W:World,W=Jc.alloc (.cells #[.slice N5 n5 c5,.slice (some ⟨b5,o5,none⟩) 1 d5,.slice F5 m5 e5] 26):=⟨_,rfl⟩;have E8:ah gu Jc.heap.size 26 #[.slice N5 n5 c5,.slice (some ⟨b5,o5,none⟩) 1 d5,.slice F5 m5 e5]:=by rw [hW];exact ah.made rfl _ _
 have hA:Below Jc.heap.size Jc gu:=by rw [hW];exact bA (bR Jc) _
 have HZ:=avE (show ∀ W,Below gu.heap.size gu W->b5<W.heap.size/\W.cell? ⟨b5,o5+3,none⟩=some (.slice V5 1 q5)/\dM W (.slice V5 1 q5) [⟨4,1⟩] from fun W hW=>by
  have hh:=bT hA hW;exact ⟨awf hb5 hh.size,(hh.cell hb5).trans hc5,hv5.mono hh⟩)
 have fU:=avE (aiN _ Yx 9 gu (hpz.mono hA) (ai4 _ _ ars ars) (by show 0<=1000000;omega) (ai5 _));rw [ato] at fU;have aja:=avE (bT ai9.out (bT Jd hA));rw [<- hW];obtain ⟨g16,ajb⟩:∃ g,Jc.heap.size=g:=⟨_,rfl⟩;rw [ajb] at E8 ⊢;clear hW hA Jd hpz hb5 hc5 hv5 ajb ai9;have ajc:=avE E8;obtain ⟨MN,MO,MP,MQ,-,-,-⟩:=E8.aF;go_wp2_with fail;refine fU.out.mono ?_;rintro e Yz ⟨vs,rfl,ajd,hps⟩;obtain ⟨N6,n6,c6,b6,o6,d6,F6,m6,e6,V6,q6,rfl,-⟩:=hps.one (a:=⟨3,1,2,[⟨4,1⟩],0,0⟩) rfl;clear fU E8 MN MO MP MQ hps;go_upto_region 9 with fail;obtain ⟨W14,hW⟩:∃ W:World,W=Yz.alloc (.cells #[.slice N6 n6 c6,.slice (some ⟨b6,o6,none⟩) 1 d6,.slice F6 m6 e6] 26):=⟨_,rfl⟩;have hA:Below Yz.heap.size Yz W14:=by rw [hW];exact bA (bR Yz) _
 have acT:=avE (bT ajd hA);have Ud:=avE (bT aja.out acT.out);rw [<- hW];clear hW hA ajd;have JY:=avE (fun W (hW:Below W7.heap.size W7 W)=>acS _ _ (qg []) W (SY.out.mono (bT ai7.out hW)) (uS.out.mono (bT gW.out hW)));have T1:=HT1.out.keep (bT gW.out Ud.out);have T3:=HT3.out.keep (bT ai7.out Ud.out)
 try clear qR
 try clear qU
 try clear qV
 try clear qW
 obtain ⟨qR,qU,qV,qW,-,-,-⟩:=T1.aF;obtain ⟨T3l,T3a,T3b,T3c,-,-,-⟩:=T3.aF;go_wp2_with fail;refine (JY.out _ Ud.out).mono ?_;rintro e w15 ⟨rfl,acU⟩;have YC:=avE (bT Ud.out acU);have acV:=avE (bT acT.out acU);clear acU T1 qR qU qV qW T3 T3l T3a T3b T3c JY Ud acT aja;have T5:=HT5.out.keep YC.out;have E8:=ajc.out.keep acV.out;obtain ⟨T5l,T5a,T5b,T5c,-,-,-⟩:=T5.aF
 try clear MN
 try clear MO
 try clear MP
 try clear MQ
 obtain ⟨MN,MO,MP,MQ,-,-,-⟩:=E8.aF;obtain ⟨y1,y2,y3⟩:=HY.out _ YC.out;have HPy:=avE y3;clear y3;go_wp2_with fail;refine (Zg _ _ [⟨10,10⟩,⟨0,10⟩] [⟨10,10⟩,⟨0,10⟩] _ (HPy.out.mono (bA (bR _) _)) (Sl.lit (n:=2) (ah.made rfl _ _) rfl (dP Pe))).mono ?_;rintro e w16 ⟨rfl,hb16⟩;rw [avW rfl];have aje:=avE (bT YC.out (bT (bA (bR _) _) hb16));have acW:=avE (bT acV.out (bT (bA (bR _) _) hb16));clear hb16 T5 T5l T5a T5b T5c E8 MN MO MP MQ y1 y2 HPy YC acV HY;have E8:=ajc.out.keep acW.out
 try clear MN
 try clear MO
 try clear MP
 try clear MQ
 obtain ⟨MN,MO,MP,MQ,-,-,-⟩:=E8.aF;obtain ⟨z1,z2,z3⟩:=HZ.out _ acW.out;have HPz:=avE z3;clear z3;go_wp2_with fail;refine (Zg _ _ [⟨4,1⟩] [⟨4,1⟩] _ (HPz.out.mono (bA (bR _) _)) (Sl.lit (n:=1) (ah.made rfl _ _) rfl (dP Pe))).mono ?_;rintro e w17 ⟨rfl,ajf⟩;rw [avW rfl];have ajg:=avE (bT aje.out (bT (bA (bR _) _) ajf));clear ajf E8 MN MO MP MQ z1 z2 HPz acW HZ aje;have YD:=avE (bT gW.out ajg.out);have T1:=HT1.out.keep YD.out
 try clear qR
 try clear qU
 try clear qV
 try clear qW
 obtain ⟨qR,qU,qV,qW,-,-,-⟩:=T1.aF;go_wp2_with fail;refine (DN.out _ YD.out).mono ?_;rintro e w18 ⟨rfl,ajh⟩;have YE:=avE (bT YD.out ajh);clear ajh T1 qR qU qV qW YD ajg;have T1:=HT1.out.keep YE.out
 try clear qR
 try clear qU
 try clear qV
 try clear qW
 obtain ⟨qR,qU,qV,qW,-,-,-⟩:=T1.aF;go_wp2_with fail;refine (HF2.out _ YE.out).mono ?_;rintro e w19 ⟨rfl,aji⟩;have YG:=avE (bT YE.out aji);clear aji T1 qR qU qV qW YE;have T2:=HT2.out.keep YG.out;obtain ⟨T2l,T2a,T2b,T2c,-,-,-⟩:=T2.aF;go_wp2_with fail;refine (HF3.out _ YG.out).mono ?_;rintro e w20 ⟨rfl,ajj⟩;have acX:=avE (bT YG.out ajj);clear ajj T2 T2l T2a T2b T2c YG;have T2:=HT2.out.keep acX.out
 try clear T2l
 try clear T2a
 try clear T2b
 try clear T2c
 obtain ⟨T2l,T2a,T2b,T2c,-,-,-⟩:=T2.aF;go_wp2_with fail;refine (XE.out _ acX.out).mono ?_;rintro e w21 ⟨rfl,ajk⟩;have JL:=avE (bT HB3.out (bT acX.out ajk));clear ajk;go_wp2;go_ret;exact ⟨rfl,JL.out⟩
end Go.Proofs.YtialfdomhoojiaaGreat
