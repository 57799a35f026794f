import Derived.Test.YtnhdmghgjngcaaaGreatJ30
import Derived.Test.YtnhdmghgjngcaaaGreatJ01
import Derived.Test.YtnhdmghgjngcaaaGreatLawSf
import Derived.Test.YtnhdmghgjngcaaaGreatJ17
import Derived.Test.YtnhdmghgjngcaaaGreatJ13
import Derived.Test.YtnhdmghgjngcaaaGreatJ18
set_option linter.unusedSimpArgs false
set_option linter.unusedVariables false
namespace Go.Proofs.YtnhdmghgjngcaaaGreat
open Go.RowKit

theorem PlV.one {W:World} {v:Value} {p:Pl} {a:Ar} (h:PlV W v p) (ha:p.arcs=[a]):∃ An nn cn b o c Af nf cf Av cv,v=.agg #[.slice An nn cn,.slice (some ⟨b,o,none⟩) 1 c,.slice Af nf cf]∧1≤c∧b<W.heap.size∧W.cell? ⟨b,o+3,none⟩=some (.slice Av a.via.length cv)∧Pts W (.slice Av a.via.length cv) a.via:=by
 obtain ⟨_,_,_,al,rfl,he,⟨An,cn,rfl,-⟩,⟨⟨Aa,ca,rfl,h1,-,hR⟩,hV⟩,⟨Af,cf,rfl,-⟩⟩:=h
 rw [ha] at he
 obtain ⟨z,rfl⟩:∃ z,al=[z]:=by
  cases al with
  | nil=>simp at he
  | cons z l =>
   cases l with
   | nil=>exact ⟨z,rfl⟩
   | cons _ _=>simp at he
 obtain ⟨b,o,rfl,hb,-,-,-,c3,-,-⟩:=hR.ar (k:=0) (by simp)
 have hz:z.1=a:=by simpa using he.symm
 obtain ⟨Av,cv,hva,hv⟩:=hV 0 (by simp)
 simp only [List.getElem_cons_zero,Nat.zero_mul,Nat.add_zero] at c3 hva hv
 rw [hz] at hva hv
 rw [hva] at c3
 exact ⟨_,_,_,b,o,ca,_,_,_,Av,cv,rfl,h1,hb,c3,Av,cv,rfl,hv⟩
theorem mod_sq (ns:List Nd) (h:ns.length≤100):Mod34 (sq3P ns):=⟨by show ns.length+1≤1000000;omega,by show 1≤1000000;omega,fun a ha=>by
 have e:a=⟨1,1,1,exVia,1,0⟩:=List.mem_singleton.1 ha
 subst e
 show 3≤1000000
 omega⟩
theorem wf_sq (ns:List Nd):∀ a∈(sq3P ns).arcs,wfI a.id:=fun a ha=>by
 have e:a=⟨1,1,1,exVia,1,0⟩:=List.mem_singleton.1 ha
 subst e
 unfold wfI
 decide
theorem mod_ln (via:List Pt) (nd:List Nd) (h:via.length≤100) (h':nd.length≤100):Mod34 ⟨nd,[⟨3,1,2,via,0,0⟩],[]⟩:=⟨by show nd.length≤1000000;omega,by show 1≤1000000;omega,fun a ha=>by
 have e:a=⟨3,1,2,via,0,0⟩:=List.mem_singleton.1 ha
 subst e
 show via.length≤1000000
 omega⟩
theorem wf_ln (via:List Pt):∀ a∈[(⟨3,1,2,via,0,0⟩:Ar)],wfI a.id:=fun a ha=>by
 have e:a=⟨3,1,2,via,0,0⟩:=List.mem_singleton.1 ha
 subst e
 show wfI 3
 unfold wfI
 decide

set_option maxRecDepth 100000 in
set_option maxHeartbeats 8000000 in
theorem awake34_spec:Aw34:=by
 intro w
 have HQ:=Lib.hid square34_spec
 go_enter Tryz.func8,Tryz.ntmps8
 go_wp2_with fail
 refine (HQ.out _ [] _ (Sl.nil _) (by simp)).mono ?_
 rintro e w1 ⟨v1,rfl,hb1,hp1⟩
 have HB1:=Lib.hid hb1
 have HP1:=Lib.hid hp1
 clear hb1
 obtain ⟨N1,n1,c1,b1,o1,d1,F1,m1,e1,V1,q1,rfl,-⟩:=hp1.one (a:=⟨1,1,1,exVia,1,0⟩) rfl
 clear hp1
 go_wp2_with fail
 refine (HQ.out _ [⟨2,⟨7,2⟩⟩] _ (Sl.lit (n:=1) (Blk.made rfl _ _) rfl (le_maxLen (by omega))) (by simp)).mono ?_
 rintro e w2 ⟨v2,rfl,hb2,hp2⟩
 obtain ⟨N2,n2,c2,b2,o2,d2,F2,m2,e2,V2,q2,rfl,-⟩:=hp2.one (a:=⟨1,1,1,exVia,1,0⟩) rfl
 go_upto_region 2 with fail
 obtain ⟨W3,hW⟩:∃ W:World,W=(w2.alloc (.cells #[.slice N1 n1 c1,.slice (some ⟨b1,o1,none⟩) 1 d1,.slice F1 m1 e1] 26)).alloc (.cells #[.slice N2 n2 c2,.slice (some ⟨b2,o2,none⟩) 1 d2,.slice F2 m2 e2] 26):=⟨_,rfl⟩
 have T1:Blk W3 w2.heap.size 26 #[.slice N1 n1 c1,.slice (some ⟨b1,o1,none⟩) 1 d1,.slice F1 m1 e1]:=by rw [hW];exact (Blk.made rfl _ _).alloc _
 have T2:Blk W3 (w2.heap.size+1) 26 #[.slice N2 n2 c2,.slice (some ⟨b2,o2,none⟩) 1 d2,.slice F2 m2 e2]:=by rw [hW];exact Blk.made (by simp) _ _
 have hA:Below w2.heap.size w2 W3:=by rw [hW];exact bA (bA (bR w2) _) _
 have HQ1:=Lib.hid (HP1.out.mono (bT (bA (bR w1) _) (bT hb2 hA)))
 have HQ2:=Lib.hid (hp2.mono hA)
 have HB3:=Lib.hid (bT HB1.out (bT (bA (bR w1) _) (bT hb2 hA)))
 rw [← hW]
 clear hW hA hb2 hp2 HP1 HB1 HQ
 obtain ⟨g1,hg1⟩:∃ g,w2.heap.size=g:=⟨_,rfl⟩
 obtain ⟨g2,hg2⟩:∃ g,g1+1=g:=⟨_,rfl⟩
 rw [hg1] at T1 T2 ⊢
 rw [hg2] at T2 ⊢
 clear hg1 hg2
 have HT1:=Lib.hid T1;have HT2:=Lib.hid T2
 have HS1:=Lib.hid (fun W (hW:Below W3.heap.size W3 W)=>Simplify34_spec _ (sq3P []) 100 W (HQ1.out.mono hW) (mod_sq [] (by simp)) (by show 1≤1000000;omega) (wf_sq []))
 have HS2:=Lib.hid (fun W (hW:Below W3.heap.size W3 W)=>Simplify34_spec _ (sq3P []) 101 W (HQ1.out.mono hW) (mod_sq [] (by simp)) (by show 1≤1000000;omega) (wf_sq []))
 have HL1:=Lib.hid (fun W (hW:Below W3.heap.size W3 W)=>Least_spec _ (sq3P []) 101 W (HQ1.out.mono hW) (mod_sq [] (by simp)) (wf_sq []))
 have HL2:=Lib.hid (fun W (hW:Below W3.heap.size W3 W)=>Least_spec _ (sq3P []) 100 W (HQ1.out.mono hW) (mod_sq [] (by simp)) (wf_sq []))
 have HF1:=Lib.hid (fun W (hW:Below W3.heap.size W3 W)=>Free_spec _ (sq3P []) 1 2 W (HQ1.out.mono hW) (mod_sq [] (by simp)))
 have HF2:=Lib.hid (fun W (hW:Below W3.heap.size W3 W)=>Free_spec _ (sq3P []) 1 3 W (HQ1.out.mono hW) (mod_sq [] (by simp)))
 have HF3:=Lib.hid (fun W (hW:Below W3.heap.size W3 W)=>Free_spec _ (sq3P [⟨2,⟨7,2⟩⟩]) 1 0 W (HQ2.out.mono hW) (mod_sq _ (by simp)))
 have HF4:=Lib.hid (fun W (hW:Below W3.heap.size W3 W)=>Free_spec _ (sq3P [⟨2,⟨7,2⟩⟩]) 1 2 W (HQ2.out.mono hW) (mod_sq _ (by simp)))
 rw [as_1] at HS1
 rw [as_2] at HS2
 rw [as_3] at HL1
 rw [as_4] at HL2
 rw [as_7] at HF1
 rw [as_8] at HF2
 rw [as_9] at HF3
 rw [as_10] at HF4
 replace HL1:=Lib.hid (show ∀ W,Below W3.heap.size W3 W→Calls Tryz.prog 15 #[.agg #[.slice N1 n1 c1,.slice (some ⟨b1,o1,none⟩) 1 d1,.slice F1 m1 e1],.int .i64 101] W fun e w'=>e=.returned (.tuple #[.int .i64 1,.int .i64 0,.int .i64 100,.bool true])∧Below W.heap.size W w' from HL1.out)
 replace HL2:=Lib.hid (show ∀ W,Below W3.heap.size W3 W→Calls Tryz.prog 15 #[.agg #[.slice N1 n1 c1,.slice (some ⟨b1,o1,none⟩) 1 d1,.slice F1 m1 e1],.int .i64 100] W fun e w'=>e=.returned (.tuple #[.int .i64 0,.int .i64 0,.int .i64 0,.bool false])∧Below W.heap.size W w' from HL2.out)
 clear T2
 obtain ⟨T1l,T1a,T1b,T1c,-,-,-⟩:=T1.facts3
 go_wp2_with fail
 refine (HS1.out _ (bR _)).mono ?_
 rintro e w4 ⟨vx,rfl,hb4,hpx⟩
 obtain ⟨N3,n3,c3,b3,o3,d3,F3,m3,e3,V3,q3,rfl,-⟩:=hpx.one (a:=⟨1,1,1,exVia,1,0⟩) rfl
 go_upto_region 3 with fail
 obtain ⟨W5,hW⟩:∃ W:World,W=w4.alloc (.cells #[.slice N3 n3 c3,.slice (some ⟨b3,o3,none⟩) 1 d3,.slice F3 m3 e3] 26):=⟨_,rfl⟩
 have T3:Blk W5 w4.heap.size 26 #[.slice N3 n3 c3,.slice (some ⟨b3,o3,none⟩) 1 d3,.slice F3 m3 e3]:=by rw [hW];exact Blk.made rfl _ _
 have hA:Below w4.heap.size w4 W5:=by rw [hW];exact bA (bR w4) _
 have HQ3:=Lib.hid (hpx.mono hA)
 have HB5:=Lib.hid (bT hb4 hA)
 rw [← hW]
 clear hW hA hb4 hpx HS1 T1 T1l T1a T1b T1c
 obtain ⟨g3,hg3⟩:∃ g,w4.heap.size=g:=⟨_,rfl⟩
 rw [hg3] at T3 ⊢
 clear hg3
 have HT3:=Lib.hid T3
 have T1:=HT1.out.keep HB5.out
 clear T3
 try clear T1l
 try clear T1a
 try clear T1b
 try clear T1c
 obtain ⟨T1l,T1a,T1b,T1c,-,-,-⟩:=T1.facts3
 go_wp2_with fail
 refine (HS2.out _ HB5.out).mono ?_
 rintro e w6 ⟨vy,rfl,hb6,hpy⟩
 obtain ⟨N4,n4,c4,b4,o4,d4,F4,m4,e4,V4,q4,rfl,hd4,hb4,hc4,hv4⟩:=hpy.one (a:=⟨1,1,1,[⟨10,10⟩,⟨0,10⟩],1,0⟩) rfl
 go_upto_region 4 with fail
 obtain ⟨W7,hW⟩:∃ W:World,W=w6.alloc (.cells #[.slice N4 n4 c4,.slice (some ⟨b4,o4,none⟩) 1 d4,.slice F4 m4 e4] 26):=⟨_,rfl⟩
 have T5:Blk W7 w6.heap.size 26 #[.slice N4 n4 c4,.slice (some ⟨b4,o4,none⟩) 1 d4,.slice F4 m4 e4]:=by rw [hW];exact Blk.made rfl _ _
 have hA:Below w6.heap.size w6 W7:=by rw [hW];exact bA (bR w6) _
 have HY:=Lib.hid (show ∀ W,Below W7.heap.size W7 W→b4<W.heap.size∧W.cell? ⟨b4,o4+3,none⟩=some (.slice V4 2 q4)∧Pts W (.slice V4 2 q4) [⟨10,10⟩,⟨0,10⟩] from fun W hW=>by
  have hh:=bT hA hW
  exact ⟨Nat.lt_of_lt_of_le hb4 hh.size,(hh.cell hb4).trans hc4,hv4.mono hh⟩)
 have HB7:=Lib.hid (bT HB5.out (bT hb6 hA))
 have HB57:=Lib.hid (bT hb6 hA)
 rw [← hW]
 clear hW hA hb6 hpy HS2 T1 T1l T1a T1b T1c hb4 hc4 hv4
 obtain ⟨g5,hg5⟩:∃ g,w6.heap.size=g:=⟨_,rfl⟩
 rw [hg5] at T5 ⊢
 clear hg5
 have HT5:=Lib.hid T5
 have T1:=HT1.out.keep HB7.out
 clear T5
 try clear T1l
 try clear T1a
 try clear T1b
 try clear T1c
 obtain ⟨T1l,T1a,T1b,T1c,-,-,-⟩:=T1.facts3
 go_wp2_with fail
 refine (HL1.out _ HB7.out).mono ?_
 rintro e w8 ⟨rfl,hb8⟩
 have HB8:=Lib.hid (bT HB7.out hb8);have HB78:=Lib.hid hb8
 clear hb8 T1 T1l T1a T1b T1c
 have T1:=HT1.out.keep HB8.out
 try clear T1l
 try clear T1a
 try clear T1b
 try clear T1c
 obtain ⟨T1l,T1a,T1b,T1c,-,-,-⟩:=T1.facts3
 go_wp2_with fail
 refine (HL2.out _ HB8.out).mono ?_
 rintro e w9 ⟨rfl,hb9⟩
 have HB79:=Lib.hid (bT HB78.out hb9)
 clear hb9 T1 T1l T1a T1b T1c HB78 HB8 HL1 HL2
 go_upto_region 7 with fail
 obtain ⟨W10,hW⟩:∃ W:World,W=(((w9.alloc (.cells #[.int .i64 1,.int .i64 0,.int .i64 0,.int .i64 2,.int .i64 12,.int .i64 0] 38)).alloc (.cells #[.int .i64 4,.int .i64 1,.int .i64 8,.int .i64 0] 36)).alloc (.cells #[.int .i64 3,.int .i64 1,.int .i64 2,.slice (some ⟨w9.heap.size+1,0,none⟩) 2 2,.int .i64 0,.int .i64 0] 41)).alloc (.cells #[.slice (some ⟨w9.heap.size,0,none⟩) 2 2,.slice (some ⟨w9.heap.size+1+1,0,none⟩) 1 1,.slice none 0 0] 26):=⟨_,rfl⟩
 have hn0:Blk W10 w9.heap.size 38 #[.int .i64 1,.int .i64 0,.int .i64 0,.int .i64 2,.int .i64 12,.int .i64 0]:=by rw [hW];exact (((Blk.made rfl _ _).alloc _).alloc _).alloc _
 have hv0:Blk W10 (w9.heap.size+1) 36 #[.int .i64 4,.int .i64 1,.int .i64 8,.int .i64 0]:=by rw [hW];exact ((Blk.made (by simp) _ _).alloc _).alloc _
 have ha0:Blk W10 (w9.heap.size+1+1) 41 #[.int .i64 3,.int .i64 1,.int .i64 2,.slice (some ⟨w9.heap.size+1,0,none⟩) 2 2,.int .i64 0,.int .i64 0]:=by rw [hW];exact (Blk.made (by simp) _ _).alloc _
 have T15:Blk W10 (w9.heap.size+1+1+1) 26 #[.slice (some ⟨w9.heap.size,0,none⟩) 2 2,.slice (some ⟨w9.heap.size+1+1,0,none⟩) 1 1,.slice none 0 0]:=by rw [hW];exact Blk.made (by simp) _ _
 have hA:Below w9.heap.size w9 W10:=by rw [hW];exact bA (bA (bA (bA (bR w9) _) _) _) _
 have hP:PlV W10 (.agg #[.slice (some ⟨w9.heap.size,0,none⟩) 2 2,.slice (some ⟨w9.heap.size+1+1,0,none⟩) 1 1,.slice none 0 0]) ln3P:=PlV.blocks (al:=[(⟨3,1,2,[⟨4,1⟩,⟨8,0⟩],0,0⟩,.slice (some ⟨w9.heap.size+1,0,none⟩) 2 2)]) rfl (Sl.lit (n:=2) hn0 rfl (le_maxLen (by omega))) (Sl.lit (n:=1) ha0 rfl (le_maxLen (by omega))) (vias_one (Sl.lit (n:=2) hv0 rfl (le_maxLen (by omega)))) (Sl.nil _)
 have HB710:=Lib.hid (bT HB79.out hA)
 rw [← hW]
 obtain ⟨k1,hk1⟩:∃ g,w9.heap.size+1+1=g:=⟨_,rfl⟩
 obtain ⟨k2,hk2⟩:∃ g,k1+1=g:=⟨_,rfl⟩
 obtain ⟨k0,hk0⟩:∃ g,w9.heap.size=g:=⟨_,rfl⟩
 rw [hk1] at hP
 rw [hk1,hk2] at T15
 rw [hk0] at hP T15
 try rw [hk1]
 try rw [hk2]
 try rw [hk0]
 clear hW hA hn0 hv0 ha0 hk1 hk2 hk0
 have HT15:=Lib.hid T15
 have HS5:=Lib.hid (Simplify34_spec _ ln3P 9 W10 hP (mod_ln _ _ (by simp) (by simp)) (by show 0≤1000000;omega) (wf_ln _))
 rw [as_5] at HS5
 clear hP
 obtain ⟨T15l,T15a,T15b,T15c,-,-,-⟩:=T15.facts3
 go_wp2_with fail
 refine HS5.out.mono ?_
 rintro e w11 ⟨vz,rfl,hb11,hpz⟩
 obtain ⟨N5,n5,c5,b5,o5,d5,F5,m5,e5,V5,q5,rfl,hd5,hb5,hc5,hv5⟩:=hpz.one (a:=⟨3,1,2,[⟨4,1⟩],0,0⟩) rfl
 clear HS5 T15 T15l T15a T15b T15c HT15
 go_upto_region 8 with fail
 obtain ⟨W12,hW⟩:∃ W:World,W=w11.alloc (.cells #[.slice N5 n5 c5,.slice (some ⟨b5,o5,none⟩) 1 d5,.slice F5 m5 e5] 26):=⟨_,rfl⟩
 have T16:Blk W12 w11.heap.size 26 #[.slice N5 n5 c5,.slice (some ⟨b5,o5,none⟩) 1 d5,.slice F5 m5 e5]:=by rw [hW];exact Blk.made rfl _ _
 have hA:Below w11.heap.size w11 W12:=by rw [hW];exact bA (bR w11) _
 have HZ:=Lib.hid (show ∀ W,Below W12.heap.size W12 W→b5<W.heap.size∧W.cell? ⟨b5,o5+3,none⟩=some (.slice V5 1 q5)∧Pts W (.slice V5 1 q5) [⟨4,1⟩] from fun W hW=>by
  have hh:=bT hA hW
  exact ⟨Nat.lt_of_lt_of_le hb5 hh.size,(hh.cell hb5).trans hc5,hv5.mono hh⟩)
 have HSt:=Lib.hid (Step34_spec _ ln3R 9 W12 (hpz.mono hA) (mod_ln _ _ (by simp) (by simp)) (by show 0≤1000000;omega) (wf_ln _))
 rw [as_6] at HSt
 have HB712:=Lib.hid (bT HB710.out (bT hb11 hA))
 rw [← hW]
 obtain ⟨g16,hg16⟩:∃ g,w11.heap.size=g:=⟨_,rfl⟩
 rw [hg16] at T16 ⊢
 clear hW hA hb11 hpz hb5 hc5 hv5 hg16 HB710
 have HT16:=Lib.hid T16
 obtain ⟨T16l,T16a,T16b,T16c,-,-,-⟩:=T16.facts3
 go_wp2_with fail
 refine HSt.out.mono ?_
 rintro e w13 ⟨vs,rfl,hb13,hps⟩
 obtain ⟨N6,n6,c6,b6,o6,d6,F6,m6,e6,V6,q6,rfl,-⟩:=hps.one (a:=⟨3,1,2,[⟨4,1⟩],0,0⟩) rfl
 clear HSt T16 T16l T16a T16b T16c hps
 go_upto_region 9 with fail
 obtain ⟨W14,hW⟩:∃ W:World,W=w13.alloc (.cells #[.slice N6 n6 c6,.slice (some ⟨b6,o6,none⟩) 1 d6,.slice F6 m6 e6] 26):=⟨_,rfl⟩
 have hA:Below w13.heap.size w13 W14:=by rw [hW];exact bA (bR w13) _
 have HB1214:=Lib.hid (bT hb13 hA)
 have HB714:=Lib.hid (bT HB712.out HB1214.out)
 rw [← hW]
 clear hW hA hb13
 have HSa:=Lib.hid (fun W (hW:Below W7.heap.size W7 W)=>RSame14_true _ _ (sq3P []) W (HQ3.out.mono (bT HB57.out hW)) (HQ1.out.mono (bT HB7.out hW)))
 have T1:=HT1.out.keep (bT HB7.out HB714.out);have T3:=HT3.out.keep (bT HB57.out HB714.out)
 try clear T1l
 try clear T1a
 try clear T1b
 try clear T1c
 obtain ⟨T1l,T1a,T1b,T1c,-,-,-⟩:=T1.facts3
 obtain ⟨T3l,T3a,T3b,T3c,-,-,-⟩:=T3.facts3
 go_wp2_with fail
 refine (HSa.out _ HB714.out).mono ?_
 rintro e w15 ⟨rfl,hb15⟩
 have HB715:=Lib.hid (bT HB714.out hb15);have HB1215:=Lib.hid (bT HB1214.out hb15)
 clear hb15 T1 T1l T1a T1b T1c T3 T3l T3a T3b T3c HSa HB714 HB1214 HB712
 have T5:=HT5.out.keep HB715.out;have T16:=HT16.out.keep HB1215.out
 obtain ⟨T5l,T5a,T5b,T5c,-,-,-⟩:=T5.facts3
 try clear T16l
 try clear T16a
 try clear T16b
 try clear T16c
 obtain ⟨T16l,T16a,T16b,T16c,-,-,-⟩:=T16.facts3
 obtain ⟨y1,y2,y3⟩:=HY.out _ HB715.out
 have HPy:=Lib.hid y3
 clear y3
 go_wp2_with fail
 refine (SamePath_spec _ _ [⟨10,10⟩,⟨0,10⟩] [⟨10,10⟩,⟨0,10⟩] _ (HPy.out.mono (bA (bR _) _)) (Sl.lit (n:=2) (Blk.made rfl _ _) rfl (le_maxLen (by omega)))).mono ?_
 rintro e w16 ⟨rfl,hb16⟩
 rw [decide_eq_true rfl]
 have HB716:=Lib.hid (bT HB715.out (bT (bA (bR _) _) hb16));have HB1216:=Lib.hid (bT HB1215.out (bT (bA (bR _) _) hb16))
 clear hb16 T5 T5l T5a T5b T5c T16 T16l T16a T16b T16c y1 y2 HPy HB715 HB1215 HY
 have T16:=HT16.out.keep HB1216.out
 try clear T16l
 try clear T16a
 try clear T16b
 try clear T16c
 obtain ⟨T16l,T16a,T16b,T16c,-,-,-⟩:=T16.facts3
 obtain ⟨z1,z2,z3⟩:=HZ.out _ HB1216.out
 have HPz:=Lib.hid z3
 clear z3
 go_wp2_with fail
 refine (SamePath_spec _ _ [⟨4,1⟩] [⟨4,1⟩] _ (HPz.out.mono (bA (bR _) _)) (Sl.lit (n:=1) (Blk.made rfl _ _) rfl (le_maxLen (by omega)))).mono ?_
 rintro e w17 ⟨rfl,hb17⟩
 rw [decide_eq_true rfl]
 have HB717:=Lib.hid (bT HB716.out (bT (bA (bR _) _) hb17))
 clear hb17 T16 T16l T16a T16b T16c z1 z2 HPz HB1216 HZ HB716
 have HB37:=Lib.hid (bT HB7.out HB717.out)
 have T1:=HT1.out.keep HB37.out
 try clear T1l
 try clear T1a
 try clear T1b
 try clear T1c
 obtain ⟨T1l,T1a,T1b,T1c,-,-,-⟩:=T1.facts3
 go_wp2_with fail
 refine (HF1.out _ HB37.out).mono ?_
 rintro e w18 ⟨rfl,hb18⟩
 have HB38:=Lib.hid (bT HB37.out hb18)
 clear hb18 T1 T1l T1a T1b T1c HB37 HB717
 have T1:=HT1.out.keep HB38.out
 try clear T1l
 try clear T1a
 try clear T1b
 try clear T1c
 obtain ⟨T1l,T1a,T1b,T1c,-,-,-⟩:=T1.facts3
 go_wp2_with fail
 refine (HF2.out _ HB38.out).mono ?_
 rintro e w19 ⟨rfl,hb19⟩
 have HB39:=Lib.hid (bT HB38.out hb19)
 clear hb19 T1 T1l T1a T1b T1c HB38
 have T2:=HT2.out.keep HB39.out
 obtain ⟨T2l,T2a,T2b,T2c,-,-,-⟩:=T2.facts3
 go_wp2_with fail
 refine (HF3.out _ HB39.out).mono ?_
 rintro e w20 ⟨rfl,hb20⟩
 have HB30:=Lib.hid (bT HB39.out hb20)
 clear hb20 T2 T2l T2a T2b T2c HB39
 have T2:=HT2.out.keep HB30.out
 try clear T2l
 try clear T2a
 try clear T2b
 try clear T2c
 obtain ⟨T2l,T2a,T2b,T2c,-,-,-⟩:=T2.facts3
 go_wp2_with fail
 refine (HF4.out _ HB30.out).mono ?_
 rintro e w21 ⟨rfl,hb21⟩
 have HBe:=Lib.hid (bT HB3.out (bT HB30.out hb21))
 clear hb21
 go_wp2_with fail
 go_ret
 exact ⟨rfl,HBe.out⟩
end Go.Proofs.YtnhdmghgjngcaaaGreat
namespace Go.Proofs.YtnhdmghgjngcaaaGreat
open Go.RowKit
set_option linter.unusedSectionVars false

theorem meet_np {a b s t:Pt} (hab:a≠b) (hd:tw a b t-tw a b s≠0) :
  (rmeetN a b s t=1∧((tw a b s≤0∧0≤tw a b t∧tw s t b≤0∧0≤tw s t a)∨(0≤tw a b s∧tw a b t≤0∧0≤tw s t b∧tw s t a≤0))) ∨
  (rmeetN a b s t=0∧¬ (tw a b s≤0∧0≤tw a b t∧tw s t b≤0∧0≤tw s t a)∧¬ (0≤tw a b s∧tw a b t≤0∧0≤tw s t b∧tw s t a≤0)):=by
 have e:=tw_d a b s t
 unfold rmeetN
 rw [if_neg (fun h=>hab h.1),cross_a a s t,cross_b a b s,cross_d a b s t,if_neg hd]
 split
 ·
  split
  · left;refine ⟨rfl,?_⟩;omega
  · right;refine ⟨rfl,?_⟩;omega
 ·
  split
  · left;refine ⟨rfl,?_⟩;omega
  · right;refine ⟨rfl,?_⟩;omega
theorem on_of {s t a c:Pt} (h0:tw s t a=0) (hn:tw s t c≠0) (h:(tw a c s≤0∧0≤tw a c t)∨(0≤tw a c s∧tw a c t≤0)):onP s t a:=by
 have ex:(tw a c t-tw a c s)*a.x=tw a c t*s.x+(-tw a c s)*t.x:=by unfold tw at *;grind
 have ey:(tw a c t-tw a c s)*a.y=tw a c t*s.y+(-tw a c s)*t.y:=by unfold tw at *;grind
 have hd:tw a c t-tw a c s=-tw s t c:=by unfold tw at *;grind
 have key:∀ {u v p q m:Int},0≤u→0≤v→0<u+v→(u+v)*m=u*p+v*q→min p q≤m∧m≤max p q:=by
  intro u v p q m hu hv huv e
  have a1:=Int.mul_le_mul_of_nonneg_left (show min p q≤p by omega) hu
  have a2:=Int.mul_le_mul_of_nonneg_left (show min p q≤q by omega) hv
  have b1:=Int.mul_le_mul_of_nonneg_left (show p≤max p q by omega) hu
  have b2:=Int.mul_le_mul_of_nonneg_left (show q≤max p q by omega) hv
  have e1:(u+v)*min p q=u*min p q+v*min p q:=Int.add_mul _ _ _
  have e2:(u+v)*max p q=u*max p q+v*max p q:=Int.add_mul _ _ _
  exact ⟨Int.le_of_mul_le_mul_left (show (u+v)*min p q≤(u+v)*m by omega) huv,Int.le_of_mul_le_mul_left (show (u+v)*m≤(u+v)*max p q by omega) huv⟩
 unfold onP
 refine ⟨h0,?_⟩
 rcases h with ⟨h1,h2⟩ | ⟨h1,h2⟩
 ·
  have k1:=key (u:=tw a c t) (v:=-tw a c s) (p:=s.x) (q:=t.x) (m:=a.x) h2 (by omega) (by omega) (by rw [← ex];rw [Int.sub_eq_add_neg])
  have k2:=key (u:=tw a c t) (v:=-tw a c s) (p:=s.y) (q:=t.y) (m:=a.y) h2 (by omega) (by omega) (by rw [← ey];rw [Int.sub_eq_add_neg])
  omega
 ·
  have k1:=key (u:=-tw a c t) (v:=tw a c s) (p:=s.x) (q:=t.x) (m:=a.x) (by omega) h1 (by omega) (by
   have:(-tw a c t+tw a c s)*a.x=-((tw a c t-tw a c s)*a.x):=by grind
   rw [this,ex];grind)
  have k2:=key (u:=-tw a c t) (v:=tw a c s) (p:=s.y) (q:=t.y) (m:=a.y) (by omega) h1 (by omega) (by
   have:(-tw a c t+tw a c s)*a.y=-((tw a c t-tw a c s)*a.y):=by grind
   rw [this,ey];grind)
  omega
theorem thru_signs {fA fB fC α β γ α' β' γ' D:Int} (hA:0<fA) (hC:fC<0) (e1:fA*α+fB*β+fC*γ=0) (e2:fA*α'+fB*β'+fC*γ'=0) (s1:α+β+γ=D) (s2:α'+β'+γ'=D) (hb:β≤0) (hb':0≤β')
  (hp:0<D→¬ (0≤α'∧0≤β'∧0≤γ')) (hn:D<0→¬ (α≤0∧β≤0∧γ≤0)) (hD:D≠0):(fB≤0→0≤γ∧γ'≤0)∧(0≤fB→0≤α∧α'≤0):=by
 have pp:∀ {x y:Int},0≤x→0≤y→0≤x*y:=fun h1 h2=>Int.mul_nonneg h1 h2
 have pn:∀ {x y:Int},0≤x→y≤0→x*y≤0:=fun h1 h2=>Int.mul_nonpos_of_nonneg_of_nonpos h1 h2
 have np:∀ {x y:Int},x≤0→0≤y→x*y≤0:=fun h1 h2=>Int.mul_nonpos_of_nonpos_of_nonneg h1 h2
 have nn:∀ {x y:Int},x≤0→y≤0→0≤x*y:=fun h1 h2=>Int.mul_nonneg_of_nonpos_of_nonpos h1 h2
 have spp:∀ {x y:Int},0<x→0<y→0<x*y:=fun h1 h2=>Int.mul_pos h1 h2
 have spn:∀ {x y:Int},0<x→y<0→x*y<0:=fun h1 h2=>Int.mul_neg_of_pos_of_neg h1 h2
 have snp:∀ {x y:Int},x<0→0<y→x*y<0:=fun h1 h2=>Int.mul_neg_of_neg_of_pos h1 h2
 have snn:∀ {x y:Int},x<0→y<0→0<x*y:=fun h1 h2=>Int.mul_pos_of_neg_of_neg h1 h2
 constructor
 ·
  intro hB
  have q1:=np hB hb'
  have q2:=nn hB hb
  rcases Int.lt_or_gt_of_ne hD with hd | hd
  ·
   have hn:=hn hd
   have g1:0<γ:=by
    rcases Int.lt_or_le 0 γ with h | h
    · exact h
    ·
     exfalso
     have:=nn (show fC≤0 by omega) h
     rcases Int.lt_or_le 0 α with h2 | h2
     · have:=spp hA h2;omega
     · omega
   refine ⟨by omega,?_⟩
   rcases Int.lt_or_le 0 γ' with h | h
   ·
    exfalso
    have:=snp hC h
    rcases Int.lt_or_le 0 α' with h2 | h2
    · omega
    · have:=pn (show 0≤fA by omega) h2;omega
   · exact h
  ·
   have hp:=hp hd
   have g1:γ'<0:=by
    rcases Int.lt_or_le γ' 0 with h | h
    · exact h
    ·
     exfalso
     have:=np (show fC≤0 by omega) h
     rcases Int.lt_or_le α' 0 with h2 | h2
     · have:=spn hA h2;omega
     · omega
   refine ⟨?_,by omega⟩
   rcases Int.lt_or_le γ 0 with h | h
   ·
    exfalso
    have:=snn hC h
    rcases Int.lt_or_le α 0 with h2 | h2
    · omega
    · have:=pp (show 0≤fA by omega) h2;omega
   · exact h
 ·
  intro hB
  have q1:=pp hB hb'
  have q2:=pn hB hb
  rcases Int.lt_or_gt_of_ne hD with hd | hd
  ·
   have hn:=hn hd
   have g1:0<α:=by
    rcases Int.lt_or_le 0 α with h | h
    · exact h
    ·
     exfalso
     have:=pn (show 0≤fA by omega) h
     rcases Int.lt_or_le 0 γ with h2 | h2
     · have:=snp hC h2;omega
     · omega
   refine ⟨by omega,?_⟩
   rcases Int.lt_or_le 0 α' with h | h
   ·
    exfalso
    have:=spp hA h
    rcases Int.lt_or_le 0 γ' with h2 | h2
    · omega
    · have:=nn (show fC≤0 by omega) h2;omega
   · exact h
  ·
   have hp:=hp hd
   have g1:α'<0:=by
    rcases Int.lt_or_le α' 0 with h | h
    · exact h
    ·
     exfalso
     have:=pp (show 0≤fA by omega) h
     rcases Int.lt_or_le γ' 0 with h2 | h2
     · have:=snn hC h2;omega
     · omega
   refine ⟨?_,by omega⟩
   rcases Int.lt_or_le α 0 with h | h
   ·
    exfalso
    have:=spn hA h
    rcases Int.lt_or_le γ 0 with h2 | h2
    · omega
    · have:=np (show fC≤0 by omega) h2;omega
   · exact h
theorem tw_swap (a b c:Pt):tw b a c=-tw a b c:=by unfold tw;grind
theorem tri_out {a b c q:Pt} (na:near1 a=true) (nb:near1 b=true) (nc:near1 c=true) (nq:near1 q=true) (h:witS a b c q=false) :
  (0<tw a b c→¬ (0≤tw b c q∧0≤tw c a q∧0≤tw a b q))∧(tw a b c<0→¬ (tw b c q≤0∧tw c a q≤0∧tw a b q≤0)):=by
 constructor
 ·
  intro hd g
  have:=(tri_left na nb nc nq hd).2 ⟨g.2.2,g.1,g.2.1⟩
  rw [h] at this;cases this
 ·
  intro hd g
  have e1:tw b a c=-tw a b c:=tw_swap a b c
  have e2:tw b a q=-tw a b q:=tw_swap a b q
  have e3:tw a c q=-tw c a q:=tw_swap c a q
  have e4:tw c b q=-tw b c q:=tw_swap b c q
  have:=(tri_left nb na nc nq (by omega)).2 ⟨by omega,by omega,by omega⟩
  rw [witS_swap,h] at this;cases this
theorem thru {A B C s t:Pt} (na:near1 A=true) (nb:near1 B=true) (nc:near1 C=true) (ns:near1 s=true) (nt:near1 t=true)
  (hs:witS A B C s=false) (ht:witS A B C t=false) (hA:0<tw s t A) (hC:tw s t C<0) (g1:tw A C s≤0) (g2:0≤tw A C t)
  (k1:tw s t B≤0→¬ (0≤tw A B t∧tw A B s≤0)) (k2:0≤tw s t B→¬ (0≤tw B C t∧tw B C s≤0)):False:=by
 have b1:tw C A t=-tw A C t:=tw_swap A C t
 have b2:tw C A s=-tw A C s:=tw_swap A C s
 by_cases hD:tw A B C=0
 ·
  have hx:0<tw s t A-tw s t C:=by omega
  have pos_iff:∀ {x y u v:Int},0<x→0<y→u*x=v*y→(0≤v→0≤u)∧(v≤0→u≤0):=by
   intro x y u v h1 h2 e
   constructor
   ·
    intro h
    have:=Int.mul_nonneg h (show 0≤y by omega)
    rcases Int.lt_or_le u 0 with h3 | h3
    · have:=Int.mul_neg_of_neg_of_pos h3 h1;omega
    · exact h3
   ·
    intro h
    have:=Int.mul_nonpos_of_nonpos_of_nonneg h (show 0≤y by omega)
    rcases Int.lt_or_le 0 u with h3 | h3
    · have:=Int.mul_pos h3 h1;omega
    · exact h3
  rcases Int.lt_or_le 0 (tw s t B) with hB | hB
  ·
   have e1:tw B C t*(tw s t A-tw s t C)=tw A C t*(tw s t B-tw s t C):=by
    have:tw B C t*(tw s t A-tw s t C)-tw A C t*(tw s t B-tw s t C)=tw A B C*(tw s t t-tw s t C):=by unfold tw;grind
    rw [hD,Int.zero_mul] at this;omega
   have e2:tw B C s*(tw s t A-tw s t C)=tw A C s*(tw s t B-tw s t C):=by
    have:tw B C s*(tw s t A-tw s t C)-tw A C s*(tw s t B-tw s t C)=tw A B C*(tw s t s-tw s t C):=by unfold tw;grind
    rw [hD,Int.zero_mul] at this;omega
   exact k2 (by omega) ⟨(pos_iff hx (by omega) e1).1 g2,(pos_iff hx (by omega) e2).2 g1⟩
  ·
   have e1:tw A B t*(tw s t A-tw s t C)=tw A C t*(tw s t A-tw s t B):=by
    have:tw A B t*(tw s t A-tw s t C)-tw A C t*(tw s t A-tw s t B)=tw A B C*(tw s t A-tw s t t):=by unfold tw;grind
    rw [hD,Int.zero_mul] at this;omega
   have e2:tw A B s*(tw s t A-tw s t C)=tw A C s*(tw s t A-tw s t B):=by
    have:tw A B s*(tw s t A-tw s t C)-tw A C s*(tw s t A-tw s t B)=tw A B C*(tw s t A-tw s t s):=by unfold tw;grind
    rw [hD,Int.zero_mul] at this;omega
   exact k1 hB ⟨(pos_iff hx (by omega) e1).1 g2,(pos_iff hx (by omega) e2).2 g1⟩
 ·
  have e1:tw s t A*tw B C t+tw s t B*tw C A t+tw s t C*tw A B t=0:=by unfold tw;grind
  have e2:tw s t A*tw B C s+tw s t B*tw C A s+tw s t C*tw A B s=0:=by unfold tw;grind
  have s1:tw B C t+tw C A t+tw A B t=tw A B C:=by unfold tw;grind
  have s2:tw B C s+tw C A s+tw A B s=tw A B C:=by unfold tw;grind
  obtain ⟨r1,r2⟩:=thru_signs hA hC e1 e2 s1 s2 (by omega) (by omega) (tri_out na nb nc ns hs).1 (tri_out na nb nc nt ht).2 hD
  rcases Int.lt_or_le 0 (tw s t B) with hB | hB
  · exact k2 (by omega) (r2 (by omega))
  · exact k1 hB (r1 hB)
theorem onP_fst (a b:Pt):onP a b a:=⟨tw_aba a b,by omega⟩
theorem onP_snd (a b:Pt):onP a b b:=⟨tw_abb a b,by omega⟩
theorem cut_np {A B C s t:Pt} (na:near1 A=true) (nb:near1 B=true) (nc:near1 C=true) (ns:near1 s=true) (nt:near1 t=true) (hst:s≠t) (hAB:A≠B) (hBC:B≠C)
  (hs:witS A B C s=false) (ht:witS A B C t=false) (m1:rmeetN s t A B=0) (m2:rmeetN s t B C=0) (hd:tw s t C-tw s t A≠0):rmeetN s t A C=0:=by
 rcases meet_np hst hd with ⟨-,hM⟩ | ⟨h,-⟩
 case inr => exact h
 exfalso
 have b1:tw C A t=-tw A C t:=tw_swap A C t
 have b2:tw C A s=-tw A C s:=tw_swap A C s
 have hA:tw s t A≠0:=fun e=>meet_common ns nt na nb na hst hAB (on_of (c:=C) e (by omega) (by omega)) (onP_fst A B) m1
 have hC:tw s t C≠0:=fun e=>meet_common ns nt nb nc nc hst hBC (on_of (c:=A) e (by omega) (by omega)) (onP_snd B C) m2
 have n1:=fun h=>no_meet hst m1 h
 have n2:=fun h=>no_meet hst m2 h
 rcases hM with ⟨h1,h2,h3,h4⟩ | ⟨h1,h2,h3,h4⟩
 ·
  have f1:=tw_swap s t A;have f2:=tw_swap s t B;have f3:=tw_swap s t C
  exact thru na nb nc nt ns ht hs (by omega) (by omega) h3 h4 (fun hB g=>(n1 (by omega)).1 ⟨by omega,by omega,by omega,by omega⟩) (fun hB g=>(n2 (by omega)).1 ⟨by omega,by omega,by omega,by omega⟩)
 · exact thru na nb nc ns nt hs ht (by omega) (by omega) h4 h3 (fun hB g=>(n1 (by omega)).2 ⟨by omega,by omega,by omega,by omega⟩) (fun hB g=>(n2 (by omega)).2 ⟨by omega,by omega,by omega,by omega⟩)
theorem on_bef {a b x:Pt} (h0:tw a b x=0) (h1:bef x (lo a b)=false) (h2:bef (hi a b) x=false):onP a b x:=by
 have go:∀ {a b:Pt},tw a b x=0→bef b a=false→bef x a=false→bef b x=false→onP a b x:=by
  intro a b h0 hab g1 g2
  rw [bef_coord] at hab g1 g2
  refine ⟨h0,?_⟩
  by_cases hx:a.x=b.x
  · omega
  ·
   have ht:0<b.x-a.x:=by omega
   have e:(b.y-a.y)*(x.x-a.x)=(x.y-a.y)*(b.x-a.x):=by unfold tw at h0;grind
   have:=mul_btw ht e (by omega) (by omega)
   omega
 rcases lo_hi a b with ⟨e1,e2,e3⟩ | ⟨e1,e2,e3⟩
 ·
  rw [e1] at h1;rw [e2] at h2
  exact go h0 e3 h1 h2
 ·
  rw [e1] at h1;rw [e2] at h2
  exact onP_flip (go (by rw [tw_swap,h0];rfl) (bef_asym e3) h1 h2)
theorem bef_lt {a b c:Pt} (h1:bef b a=false) (h2:bef c b=false):bef c a=false:=by
 rw [bef_coord] at *;omega
theorem cross_tw (a b c:Pt):crossS a b a c=tw a b c:=by unfold crossS tw;grind
theorem cut_par {A C s t:Pt} (hst:s≠t) (hd:tw s t C-tw s t A=0) (hm:rmeetN s t A C≠0) :
  ∃ x y,(x=s∨x=t∨x=A∨x=C)∧(y=s∨y=t∨y=A∨y=C)∧onP s t x∧onP A C x∧onP s t y∧onP A C y∧(rmeetN s t A C=1∨(rmeetN s t A C=2∧x≠y)):=by
 have hm':=hm
 unfold rmeetN at hm'
 rw [if_neg (fun h=>hst h.1),cross_d,if_pos hd,cross_tw,cross_tw,cross_tw,cross_tw] at hm'
 split at hm'
 case isFalse => exact absurd rfl hm'
 rename_i hc
 obtain ⟨c1,c2,c3,c4⟩:=hc
 have hv:rmeetN s t A C=sharedS s t A C:=by
  unfold rmeetN
  rw [if_neg (fun h=>hst h.1),cross_d,if_pos hd,cross_tw,cross_tw,cross_tw,cross_tw,if_pos ⟨c1,c2,c3,c4⟩]
 rw [hv]
 rw [sharedS_def] at hm' ⊢
 have hlo:∀ a b:Pt,lo a b=a∨lo a b=b:=fun a b=>by rcases lo_hi a b with ⟨e,-⟩ | ⟨e,-⟩<;>simp [e]
 have hhi:∀ a b:Pt,hi a b=a∨hi a b=b:=fun a b=>by rcases lo_hi a b with ⟨-,e,-⟩ | ⟨-,e,-⟩<;>simp [e]
 obtain ⟨x,hx⟩:∃ x,hi (lo s t) (lo A C)=x:=⟨_,rfl⟩
 obtain ⟨y,hy⟩:∃ y,lo (hi s t) (hi A C)=y:=⟨_,rfl⟩
 rw [hx,hy] at hm' ⊢
 have mx:x=s∨x=t∨x=A∨x=C:=by
  rw [← hx]
  rcases hhi (lo s t) (lo A C) with e | e<;>rw [e]
  · rcases hlo s t with e | e<;>rw [e]<;>simp
  · rcases hlo A C with e | e<;>rw [e]<;>simp
 have my:y=s∨y=t∨y=A∨y=C:=by
  rw [← hy]
  rcases hlo (hi s t) (hi A C) with e | e<;>rw [e]
  · rcases hhi s t with e | e<;>rw [e]<;>simp
  · rcases hhi A C with e | e<;>rw [e]<;>simp
 have hle:bef y x=false:=by
  by_cases e:x=y
  · rw [e];exact bef_irr y
  ·
   rw [if_neg e] at hm'
   split at hm'
   · rename_i h;exact bef_asym h
   · exact absurd rfl hm'
 have ts:∀ {z:Pt},(z=s∨z=t∨z=A∨z=C)→tw s t z=0∧tw A C z=0:=by
  rintro z (rfl | rfl | rfl | rfl)
  · exact ⟨tw_aba _ _,c3⟩
  · exact ⟨tw_abb _ _,c4⟩
  · exact ⟨c1,tw_aba _ _⟩
  · exact ⟨c2,tw_abb _ _⟩
 have x1:bef x (lo s t)=false:=by rw [← hx];exact hi_left _ _
 have x2:bef x (lo A C)=false:=by rw [← hx];exact hi_right _ _
 have y1:bef (hi s t) y=false:=by rw [← hy];exact lo_left _ _
 have y2:bef (hi A C) y=false:=by rw [← hy];exact lo_right _ _
 refine ⟨x,y,mx,my,on_bef (ts mx).1 x1 (bef_lt hle y1),on_bef (ts mx).2 x2 (bef_lt hle y2),on_bef (ts my).1 (bef_lt x1 hle) y1,on_bef (ts my).2 (bef_lt x2 hle) y2,?_⟩
 by_cases e:x=y
 · left;rw [if_pos e]
 ·
  right
  rw [if_neg e] at hm' ⊢
  split at hm'
  · rename_i h;rw [if_pos h];exact ⟨rfl,e⟩
  · exact absurd rfl hm'
theorem tri_AC {A B C q:Pt} (na:near1 A=true) (nc:near1 C=true) (nq:near1 q=true) (h:onP A C q):witS A B C q=true:=by
 unfold witS
 have:onS C A q=true:=(onS_onP nc na nq).2 (onP_flip h)
 rw [this];simp
structure Beside (A B C s t:Pt):Prop where
 ne:s≠t
 out1:witS A B C s=true→s=A∨s=C
 out2:witS A B C t=true→t=A∨t=C
 m1:rmeetN s t A B≠0→s=A∨t=A
 m2:rmeetN s t B C≠0→s=C∨t=C
 no:¬ (s=A∧t=C)∧¬ (s=C∧t=A)
theorem cut_all {A B C s t:Pt} (na:near1 A=true) (nb:near1 B=true) (nc:near1 C=true) (ns:near1 s=true) (nt:near1 t=true) (hAB:A≠B) (hBC:B≠C) (hAC:A≠C) (h:Beside A B C s t) :
  rmeetN s t A C=if s=A∨t=A∨s=C∨t=C then 1 else 0:=by
 have pA:onP s t A→s=A∨t=A:=fun o=>h.m1 (meet_common ns nt na nb na h.ne hAB o (onP_fst A B))
 have pC:onP s t C→s=C∨t=C:=fun o=>h.m2 (meet_common ns nt nb nc nc h.ne hBC o (onP_snd B C))
 have pS:onP A C s→s=A∨s=C:=fun o=>h.out1 (tri_AC na nc ns o)
 have pT:onP A C t→t=A∨t=C:=fun o=>h.out2 (tri_AC na nc nt o)
 have share:(s=A∨t=A∨s=C∨t=C)→rmeetN s t A C≠0:=by
  rintro (e | e | e | e)
  · exact meet_common ns nt na nc na h.ne hAC (by rw [e];exact onP_fst A t) (onP_fst A C)
  · exact meet_common ns nt na nc na h.ne hAC (by rw [e];exact onP_snd s A) (onP_fst A C)
  · exact meet_common ns nt na nc nc h.ne hAC (by rw [e];exact onP_fst C t) (onP_snd A C)
  · exact meet_common ns nt na nc nc h.ne hAC (by rw [e];exact onP_snd s C) (onP_snd A C)
 by_cases hd:tw s t C-tw s t A=0
 ·
  by_cases hm:rmeetN s t A C=0
  ·
   rw [hm,if_neg]
   intro e;exact share e hm
  ·
   obtain ⟨x,y,mx,my,o1,o2,o3,o4,hv⟩:=cut_par h.ne hd hm
   have key:∀ {z:Pt},(z=s∨z=t∨z=A∨z=C)→onP s t z→onP A C z→(z=s∨z=t)∧(z=A∨z=C):=by
    rintro z (rfl | rfl | rfl | rfl) a b
    · exact ⟨.inl rfl,pS b⟩
    · exact ⟨.inr rfl,pT b⟩
    · exact ⟨(pA a).imp Eq.symm Eq.symm,.inl rfl⟩
    · exact ⟨(pC a).imp Eq.symm Eq.symm,.inr rfl⟩
   obtain ⟨k1,k2⟩:=key mx o1 o2
   obtain ⟨k3,k4⟩:=key my o3 o4
   rw [if_pos]
   ·
    rcases hv with hv | ⟨-,hne⟩
    · exact hv
    ·
     exfalso
     obtain ⟨n1,n2⟩:=h.no
     have hst:=h.ne
     rcases k1 with rfl | rfl<;>rcases k3 with rfl | rfl<;>rcases k2 with e1 | e1<;>rcases k4 with e2 | e2<;>simp_all
   · rcases k1 with rfl | rfl<;>rcases k2 with e1 | e1<;>simp [e1]
 ·
  by_cases hsh:s=A∨t=A∨s=C∨t=C
  ·
   rw [if_pos hsh]
   rcases meet_np h.ne hd with ⟨h1,-⟩ | ⟨h1,-⟩
   · exact h1
   · exact absurd h1 (share hsh)
  ·
   rw [if_neg hsh]
   simp only [not_or] at hsh
   refine cut_np na nb nc ns nt h.ne hAB hBC ?_ ?_ ?_ ?_ hd
   ·
    cases e:witS A B C s
    · rfl
    ·
     rcases h.out1 e with g | g
     · exact absurd g hsh.1
     · exact absurd g hsh.2.2.1
   ·
    cases e:witS A B C t
    · rfl
    ·
     rcases h.out2 e with g | g
     · exact absurd g hsh.2.1
     · exact absurd g hsh.2.2.2
   ·
    apply Classical.byContradiction
    intro e
    rcases h.m1 e with g | g
    · exact hsh.1 g
    · exact hsh.2.1 g
   ·
    apply Classical.byContradiction
    intro e
    rcases h.m2 e with g | g
    · exact hsh.2.2.1 g
    · exact hsh.2.2.2 g
end Go.Proofs.YtnhdmghgjngcaaaGreat
namespace Go.Proofs.YtnhdmghgjngcaaaGreat
open Go.RowKit
set_option linter.unusedSectionVars false

structure FreeAt (p:Pl) (a:Ar) (k:Nat):Prop where
 oA:ptOk ((pathS p a).getD k pt0)=true
 oB:ptOk ((pathS p a).getD (k+1) pt0)=true
 oC:ptOk ((pathS p a).getD (k+2) pt0)=true
 loop:a.fr=a.dst→3≤a.via.length
 para:a.via.length=1→paraS p a=false
 nds:∀ n∈p.nodes,blkS ((pathS p a).getD k pt0) ((pathS p a).getD (k+1) pt0) ((pathS p a).getD (k+2) pt0) n.pt=false
 vias:∀ b∈p.arcs,∀ v∈b.via,blkS ((pathS p a).getD k pt0) ((pathS p a).getD (k+1) pt0) ((pathS p a).getD (k+2) pt0) v=false
theorem FreeAt.of {p:Pl} {a:Ar} {k:Nat} (h:freeU p a (pathS p a) k=true):FreeAt p a k:=by
 unfold freeU at h
 simp only [Bool.and_eq_true,Bool.not_eq_true',Bool.and_eq_false_imp,decide_eq_true_eq,decide_eq_false_iff_not,List.any_eq_false,Bool.not_eq_true] at h
 obtain ⟨h1,h2,h3,h4,h5,h6,h7⟩:=h
 exact ⟨h1,h2,h3,fun e=>by have:=h4 e;omega,h5,h6,h7⟩

section
variable {p:Pl} (h:Valid p)
include h
theorem Valid.pt_eq {a:Ar} (ha:a∈p.arcs) {i j:Nat} (hi:i<(pathS p a).length) (hj:j<(pathS p a).length) (hij:i≠j) (e:(pathS p a).getD i pt0=(pathS p a).getD j pt0) :
  ((i=0∧j=(pathS p a).length-1)∨(j=0∧i=(pathS p a).length-1))∧a.fr=a.dst:=by
 have hl:=pathS_length p a
 have hi':i=0∨i=(pathS p a).length-1:=by
  apply Classical.byContradiction
  intro g
  have:=(h.occ_inner ha (j:=i) (by omega) (by omega) ha hj e.symm).2
  omega
 have hj':j=0∨j=(pathS p a).length-1:=by
  apply Classical.byContradiction
  intro g
  have:=(h.occ_inner ha (j:=j) (by omega) (by omega) ha hi e).2
  omega
 have hor:(i=0∧j=(pathS p a).length-1)∨(j=0∧i=(pathS p a).length-1):=by omega
 refine ⟨hor,?_⟩
 have e2:(pathS p a).getD 0 pt0=(pathS p a).getD ((pathS p a).length-1) pt0:=by
  rcases hor with ⟨rfl,rfl⟩ | ⟨rfl,rfl⟩
  · exact e
  · exact e.symm
 obtain ⟨n,hn,e3,e4⟩:=h.sound.at_dst ha
 rw [path_end,e4] at e2
 rcases h.occ_node hn ha (k:=0) (by omega) e2 with ⟨-,g⟩ | ⟨g,-⟩
 · rw [g,e3]
 · omega
theorem Valid.pair {a b:Ar} (ha:a∈p.arcs) (hb:b∈p.arcs) (hne:a≠b):ArcPair p a b:=by
 have hp:=((planar_iff p h.sound.arcs).1 h.planar).2
 rw [List.pairwise_iff_getElem] at hp
 obtain ⟨i,hi,rfl⟩:=List.mem_iff_getElem.1 ha
 obtain ⟨j,hj,rfl⟩:=List.mem_iff_getElem.1 hb
 rcases Nat.lt_trichotomy i j with g | g | g
 · exact hp i j hi hj g
 · subst g;exact absurd rfl hne
 · exact (hp j i hj hi g).symm
theorem Valid.meetN {a b:Ar} (ha:a∈p.arcs) (hb:b∈p.arcs) {k m:Nat} (hk:k+1<(pathS p a).length) (hm:m+1<(pathS p b).length) :
  rmeetS (segK p a k).a (segK p a k).b (segK p b m).a (segK p b m).b=rmeetN ((pathS p a).getD k pt0) ((pathS p a).getD (k+1) pt0) ((pathS p b).getD m pt0) ((pathS p b).getD (m+1) pt0):=by
 unfold rmeetS segK
 rw [if_pos (near4 (h.pt_near ha (by omega)) (h.pt_near ha hk) (h.pt_near hb (by omega)) (h.pt_near hb hm))]
theorem rmeetN_comm' {a b c d:Pt} (na:near1 a=true) (nb:near1 b=true) (nc:near1 c=true) (nd:near1 d=true):rmeetN a b c d=rmeetN c d a b:=by
 have:=rmeetS_comm a b c d
 unfold rmeetS at this
 rw [if_pos (near4 na nb nc nd),if_pos (near4 nc nd na nb)] at this
 exact this
theorem Valid.meet_ends {a c:Ar} (ha:a∈p.arcs) (hc:c∈p.arcs) {k m:Nat} (hk:k+1<(pathS p a).length) (hm:m+1<(pathS p c).length) (hne:¬ (c=a∧m=k))
  (hmt:rmeetN ((pathS p c).getD m pt0) ((pathS p c).getD (m+1) pt0) ((pathS p a).getD k pt0) ((pathS p a).getD (k+1) pt0)≠0) :
  (c=a∧m+1=k)∨(c=a∧m=k+1)∨(∃ n∈p.nodes,((k=0∧(pathS p a).getD k pt0=n.pt∧a.fr=n.id)∨(k+2=(pathS p a).length∧(pathS p a).getD (k+1) pt0=n.pt∧a.dst=n.id))∧((pathS p c).getD m pt0=n.pt∨(pathS p c).getD (m+1) pt0=n.pt)):=by
 have hla:=pathS_length p a;have hlc:=pathS_length p c
 by_cases e:c=a
 ·
  subst e
  have hmk:m≠k:=fun e=>hne ⟨rfl,e⟩
  have wrap:∀ {i j:Nat},i<j→j+1<(pathS p c).length→rmeetN ((pathS p c).getD i pt0) ((pathS p c).getD (i+1) pt0) ((pathS p c).getD j pt0) ((pathS p c).getD (j+1) pt0)≠0→j=i+1∨(i=0∧j+2=(pathS p c).length∧c.fr=c.dst):=by
   intro i j hij hj hne
   have h1:=h.segs.2.1 c hc i j hij hj
   unfold apartS at h1
   rw [h.meetN hc hc (by omega) hj] at h1
   split at h1
   ·
    rename_i hcond
    rcases hcond with g | ⟨g1,g2,g3⟩
    · left;exact g
    ·
     right
     refine ⟨g1,?_,g3⟩
     have:j+1=(pathS p c).length-1:=g2
     omega
   · exact absurd (by simpa using h1) hne
  obtain ⟨nd,hnd,e1,e2⟩:=h.sound.at_fr hc
  have loopEnd:c.fr=c.dst→(pathS p c).getD ((pathS p c).length-1) pt0=nd.pt:=fun g=>by rw [path_end,← g,e2]
  rcases Nat.lt_or_gt_of_ne hmk with g | g
  ·
   rcases wrap g hk hmt with g2 | ⟨g1,g2,g3⟩
   · left;exact ⟨rfl,g2.symm⟩
   ·
    right;right
    refine ⟨nd,hnd,.inr ⟨by omega,?_,by rw [← g3];exact e1.symm⟩,.inl (by rw [g1,path_0,e2])⟩
    have:=loopEnd g3
    rwa [show (pathS p c).length-1=k+1 by omega] at this
  ·
   have hmt':rmeetN ((pathS p c).getD k pt0) ((pathS p c).getD (k+1) pt0) ((pathS p c).getD m pt0) ((pathS p c).getD (m+1) pt0)≠0:=by
    rw [rmeetN_comm' h (h.pt_near hc (by omega)) (h.pt_near hc hk) (h.pt_near hc (by omega)) (h.pt_near hc hm)]
    exact hmt
   rcases wrap g hm hmt' with g2 | ⟨g1,g2,g3⟩
   · right;left;exact ⟨rfl,g2⟩
   ·
    right;right
    refine ⟨nd,hnd,.inl ⟨g1,by rw [g1,path_0,e2],e1.symm⟩,.inr ?_⟩
    have:=loopEnd g3
    rwa [show (pathS p c).length-1=m+1 by omega] at this
 ·
  right;right
  have hj:=h.pair hc ha e m hm k hk
  unfold joinedS at hj
  rw [h.meetN hc ha hm hk] at hj
  split at hj
  ·
   obtain ⟨x,hx,hat⟩:=List.any_eq_true.1 hj
   unfold meetAt at hat
   simp only [Bool.and_eq_true] at hat
   obtain ⟨⟨⟨-,-⟩,o1⟩,o2⟩:=hat
   have w1:=h.on_end hc hm hx o1
   have w2:=h.on_end ha hk hx o2
   have hid:∀ {b:Ar},b∈p.arcs→(b.fr=x.id→(pathS p b).getD 0 pt0=x.pt)∧(b.dst=x.id→(pathS p b).getD ((pathS p b).length-1) pt0=x.pt):=fun {b} hb=>by
    refine ⟨fun g=>?_,fun g=>?_⟩
    · rw [path_0,g,h.sound.node_eq hx]
    · rw [path_end,g,h.sound.node_eq hx]
   refine ⟨x,hx,?_,?_⟩
   ·
    rcases w2 with ⟨g1,g2⟩ | ⟨g1,g2⟩
    · left;exact ⟨g1,by rw [g1];exact (hid ha).1 g2,g2⟩
    ·
     right
     refine ⟨by omega,?_,g2⟩
     have:=(hid ha).2 g2
     rwa [show (pathS p a).length-1=k+1 by omega] at this
   ·
    rcases w1 with ⟨g1,g2⟩ | ⟨g1,g2⟩
    · left;rw [g1];exact (hid hc).1 g2
    ·
     right
     have:=(hid hc).2 g2
     rwa [show (pathS p c).length-1=m+1 by omega] at this
  · exact absurd (by simpa using hj) hmt
end
section
variable {p:Pl} (h:Valid p) {a:Ar} (ha:a∈p.arcs) {k:Nat} (hk:k<a.via.length) (hf:FreeAt p a k)
include h ha hk hf
theorem Valid.fr_ne:(pathS p a).getD k pt0≠(pathS p a).getD (k+1) pt0∧(pathS p a).getD (k+1) pt0≠(pathS p a).getD (k+2) pt0∧(pathS p a).getD k pt0≠(pathS p a).getD (k+2) pt0:=by
 have hl:=pathS_length p a
 refine ⟨(h.distinct ha (by omega)).1,(h.distinct ha (k:=k+1) (by omega)).1,fun e=>?_⟩
 obtain ⟨g,g2⟩:=h.pt_eq ha (by omega) (by omega) (by omega) e
 have:=hf.loop g2
 omega
theorem Valid.fr_out {c:Ar} (hc:c∈p.arcs) {j:Nat} (hj:j<(pathS p c).length) (hw:witS ((pathS p a).getD k pt0) ((pathS p a).getD (k+1) pt0) ((pathS p a).getD (k+2) pt0) ((pathS p c).getD j pt0)=true) :
  (pathS p c).getD j pt0=(pathS p a).getD k pt0∨((pathS p c).getD j pt0=(pathS p a).getD (k+1) pt0∧c=a∧j=k+1)∨(pathS p c).getD j pt0=(pathS p a).getD (k+2) pt0:=by
 have hl:=pathS_length p a;have hlc:=pathS_length p c
 have hb:blkS ((pathS p a).getD k pt0) ((pathS p a).getD (k+1) pt0) ((pathS p a).getD (k+2) pt0) ((pathS p c).getD j pt0)=false:=by
  by_cases j0:j=0
  ·
   obtain ⟨n,hn,-,e2⟩:=h.sound.at_fr hc
   rw [j0,path_0,e2];exact hf.nds n hn
  ·
   by_cases j1:j=(pathS p c).length-1
   ·
    obtain ⟨n,hn,-,e2⟩:=h.sound.at_dst hc
    rw [j1,path_end,e2];exact hf.nds n hn
   ·
    obtain ⟨l,rfl⟩:∃ l,j=l+1:=⟨j-1,by omega⟩
    have hl:l<c.via.length:=by omega
    rw [path_mid p c l hl]
    exact hf.vias c hc _ (List.getElem_mem hl)
 unfold blkS at hb
 rw [tri_eq hf.oA hf.oB hf.oC,hw] at hb
 simp only [Bool.and_true,Bool.and_eq_false_imp,decide_eq_true_eq,decide_eq_false_iff_not,ne_eq,Decidable.not_not] at hb
 by_cases e1:(pathS p c).getD j pt0=(pathS p a).getD k pt0
 · exact .inl e1
 ·
  by_cases e2:(pathS p c).getD j pt0=(pathS p a).getD (k+1) pt0
  ·
   obtain ⟨g1,g2⟩:=h.occ_inner ha (j:=k+1) (by omega) (by omega) hc hj e2
   exact .inr (.inl ⟨e2,g1,g2⟩)
  · exact .inr (.inr (hb e1 e2))
theorem Valid.fr_straight {c:Ar} (hc:c∈p.arcs) {m:Nat} (hm:m+1<(pathS p c).length) (hne:c≠a)
  (hs:((pathS p c).getD m pt0=(pathS p a).getD k pt0∧(pathS p c).getD (m+1) pt0=(pathS p a).getD (k+2) pt0)∨((pathS p c).getD m pt0=(pathS p a).getD (k+2) pt0∧(pathS p c).getD (m+1) pt0=(pathS p a).getD k pt0)):False:=by
 have hl:=pathS_length p a;have hlc:=pathS_length p c
 have hk0:k=0:=by
  apply Classical.byContradiction
  intro g
  rcases hs with ⟨g1,-⟩ | ⟨-,g1⟩
  · exact hne (h.occ_inner ha (j:=k) (by omega) (by omega) hc (by omega) g1).1
  · exact hne (h.occ_inner ha (j:=k) (by omega) (by omega) hc hm g1).1
 have hk2:k+2=(pathS p a).length-1:=by
  apply Classical.byContradiction
  intro g
  rcases hs with ⟨-,g1⟩ | ⟨g1,-⟩
  · exact hne (h.occ_inner ha (j:=k+2) (by omega) (by omega) hc hm g1).1
  · exact hne (h.occ_inner ha (j:=k+2) (by omega) (by omega) hc (by omega) g1).1
 have hv1:a.via.length=1:=by omega
 obtain ⟨x,hx,x1,x2⟩:=h.sound.at_fr ha
 obtain ⟨y,hy,y1,y2⟩:=h.sound.at_dst ha
 have eA:(pathS p a).getD k pt0=x.pt:=by rw [hk0,path_0,x2]
 have eC:(pathS p a).getD (k+2) pt0=y.pt:=by rw [hk2,path_end,y2]
 rw [eA,eC] at hs
 have key:c.via.length=0∧((c.fr=a.fr∧c.dst=a.dst)∨(c.fr=a.dst∧c.dst=a.fr)):=by
  rcases hs with ⟨g1,g2⟩ | ⟨g1,g2⟩
  ·
   have r1:=h.occ_node hx hc (by omega) g1
   have r2:=h.occ_node hy hc hm g2
   refine ⟨by omega,.inl ⟨?_,?_⟩⟩
   ·
    rw [← x1];rcases r1 with ⟨-,r⟩ | ⟨r,-⟩
    · exact r
    · omega
   ·
    rw [← y1];rcases r2 with ⟨r,-⟩ | ⟨-,r⟩
    · omega
    · exact r
  ·
   have r1:=h.occ_node hy hc (by omega) g1
   have r2:=h.occ_node hx hc hm g2
   refine ⟨by omega,.inr ⟨?_,?_⟩⟩
   ·
    rw [← y1];rcases r1 with ⟨-,r⟩ | ⟨r,-⟩
    · exact r
    · omega
   ·
    rw [← x1];rcases r2 with ⟨r,-⟩ | ⟨-,r⟩
    · omega
    · exact r
 have hp:=hf.para hv1
 unfold paraS at hp
 rw [List.any_eq_false] at hp
 refine hp c hc ?_
 have hid:c.id≠a.id:=fun e=>hne (h.arc_eq hc ha e)
 obtain ⟨q1,q2⟩:=key
 rcases q2 with ⟨q2,q3⟩ | ⟨q2,q3⟩<;>simp [hid,q1,q2,q3]
theorem Valid.fr_beside {c:Ar} (hc:c∈p.arcs) {m:Nat} (hm:m+1<(pathS p c).length) (hne:¬ (c=a∧(m=k∨m=k+1))) :
  Beside ((pathS p a).getD k pt0) ((pathS p a).getD (k+1) pt0) ((pathS p a).getD (k+2) pt0) ((pathS p c).getD m pt0) ((pathS p c).getD (m+1) pt0):=by
 have hl:=pathS_length p a;have hlc:=pathS_length p c
 refine ⟨(h.distinct hc hm).1,fun hw=>?_,fun hw=>?_,fun hmt=>?_,fun hmt=>?_,?_,?_⟩
 ·
  rcases h.fr_out ha hk hf hc (by omega) hw with g | ⟨-,g1,g2⟩ | g
  · exact .inl g
  · exact absurd ⟨g1,.inr g2⟩ hne
  · exact .inr g
 ·
  rcases h.fr_out ha hk hf hc hm hw with g | ⟨-,g1,g2⟩ | g
  · exact .inl g
  · exact absurd ⟨g1,.inl (by omega)⟩ hne
  · exact .inr g
 ·
  rcases h.meet_ends ha hc (k:=k) (by omega) hm (fun g=>hne ⟨g.1,.inl g.2⟩) hmt with ⟨rfl,g⟩ | ⟨g1,g2⟩ | ⟨n,hn,g1,g2⟩
  · right;rw [g]
  · exact absurd ⟨g1,.inr g2⟩ hne
  ·
   rcases g1 with ⟨-,g1,-⟩ | ⟨g1,-⟩
   · rw [g1];exact g2
   · omega
 ·
  rcases h.meet_ends ha hc (k:=k+1) (by omega) hm (fun g=>hne ⟨g.1,.inr g.2⟩) hmt with ⟨g1,g2⟩ | ⟨rfl,g⟩ | ⟨n,hn,g1,g2⟩
  · exact absurd ⟨g1,.inl (by omega)⟩ hne
  · left;rw [g]
  ·
   rcases g1 with ⟨g1,-⟩ | ⟨-,g1,-⟩
   · omega
   · rw [g1];exact g2
 ·
  rintro ⟨g1,g2⟩
  by_cases e:c=a
  ·
   subst e
   by_cases e2:m=k
   · exact hne ⟨rfl,.inl e2⟩
   ·
    have:=(h.pt_eq hc (by omega) (by omega) e2 g1).1
    omega
  · exact h.fr_straight ha hk hf hc hm e (.inl ⟨g1,g2⟩)
 ·
  rintro ⟨g1,g2⟩
  by_cases e:c=a
  ·
   subst e
   by_cases e2:m=k+2
   ·
    obtain ⟨q1,q2⟩:=h.pt_eq hc (i:=m+1) (j:=k) hm (by omega) (by omega) g2
    have:=hf.loop q2
    omega
   ·
    obtain ⟨q1,q2⟩:=h.pt_eq hc (i:=m) (j:=k+2) (by omega) (by omega) e2 g1
    have:=hf.loop q2
    have q3:m=0∧k+2=(pathS p c).length-1:=by omega
    by_cases e3:k=1
    · omega
    ·
     have:=(h.pt_eq hc (i:=m+1) (j:=k) hm (by omega) (by omega) g2).1
     omega
  · exact h.fr_straight ha hk hf hc hm e (.inr ⟨g1,g2⟩)
end
end Go.Proofs.YtnhdmghgjngcaaaGreat
namespace Go.Proofs.YtnhdmghgjngcaaaGreat
open Go.RowKit
set_option linter.unusedSectionVars false

structure ThinOf (p q:Pl):Prop where
 nodes:q.nodes=p.nodes
 faces:q.faces=p.faces
 num:q.arcs.length=p.arcs.length
 arcs:∀ i (h1:i<q.arcs.length) (h2:i<p.arcs.length),q.arcs[i].id=p.arcs[i].id∧q.arcs[i].fr=p.arcs[i].fr∧q.arcs[i].dst=p.arcs[i].dst∧q.arcs[i].left=p.arcs[i].left∧q.arcs[i].right=p.arcs[i].right∧q.arcs[i].via.Sublist p.arcs[i].via
theorem ThinOf.refl (p:Pl):ThinOf p p:=⟨rfl,rfl,rfl,fun i _ _=>⟨rfl,rfl,rfl,rfl,rfl,List.Sublist.refl _⟩⟩
theorem ThinOf.trans {p q r:Pl} (h:ThinOf p q) (k:ThinOf q r):ThinOf p r:=by
 refine ⟨k.nodes.trans h.nodes,k.faces.trans h.faces,k.num.trans h.num,fun i h1 h2=>?_⟩
 have h3:i<q.arcs.length:=by rw [h.num];exact h2
 obtain ⟨a1,a2,a3,a4,a5,a6⟩:=h.arcs i h3 h2
 obtain ⟨b1,b2,b3,b4,b5,b6⟩:=k.arcs i h1 h3
 exact ⟨b1.trans a1,b2.trans a2,b3.trans a3,b4.trans a4,b5.trans a5,b6.trans a6⟩
theorem dropL_iat (arc:Int) (i:Nat):∀ (l:List Ar) (j:Nat) (h1:j<(dropL arc i l).length) (h2:j<l.length),(dropL arc i l)[j].id=l[j].id∧(dropL arc i l)[j].fr=l[j].fr∧(dropL arc i l)[j].dst=l[j].dst∧(dropL arc i l)[j].left=l[j].left∧(dropL arc i l)[j].right=l[j].right∧(dropL arc i l)[j].via.Sublist l[j].via
 | [],_,_,h2=>absurd h2 (by simp)
 | a::l,0,h1,h2=>by
  by_cases e:a.id=arc
  ·
   have e1:dropL arc i (a::l)=⟨a.id,a.fr,a.dst,a.via.eraseIdx i,a.left,a.right⟩::l:=by rw [dropL,if_pos e]
   simp only [e1,List.getElem_cons_zero,true_and]
   exact List.eraseIdx_sublist _ _
  ·
   have e1:dropL arc i (a::l)=a::dropL arc i l:=by rw [dropL,if_neg e]
   simp [e1]
 | a::l,j+1,h1,h2=>by
  have h2':j<l.length:=by simpa using h2
  by_cases e:a.id=arc
  ·
   have e1:dropL arc i (a::l)=⟨a.id,a.fr,a.dst,a.via.eraseIdx i,a.left,a.right⟩::l:=by rw [dropL,if_pos e]
   simp [e1]
  ·
   have e1:dropL arc i (a::l)=a::dropL arc i l:=by rw [dropL,if_neg e]
   have h1':j<(dropL arc i l).length:=by rw [drop_len];exact h2'
   simp only [e1,List.getElem_cons_succ]
   exact dropL_iat arc i l j h1' h2'
theorem ThinOf.drop (p:Pl) (arc:Int) (i:Nat):ThinOf p (dropV p arc i):=⟨rfl,rfl,drop_len arc i p.arcs,fun j h1 h2=>dropL_iat arc i p.arcs j h1 h2⟩
theorem ThinOf.thin {p q:Pl} {tol:Int} (h:thinS p tol=some q):ThinOf p q:=by
 unfold thinS at h
 cases e:leastS p tol with
 | none=>rw [e] at h;cases h
 | some c =>
  rw [e] at h
  injection h with h
  subst h
  exact ThinOf.drop p c.id c.k
theorem ThinOf.mem {p q:Pl} (h:ThinOf p q) {b:Ar} (hb:b∈q.arcs):∃ a∈p.arcs,a.id=b.id∧b.via.Sublist a.via:=by
 obtain ⟨i,hi,rfl⟩:=List.mem_iff_getElem.1 hb
 have h2:i<p.arcs.length:=by rw [← h.num];exact hi
 obtain ⟨a1,-,-,-,-,a6⟩:=h.arcs i hi h2
 exact ⟨_,List.getElem_mem h2,a1.symm,a6⟩
end Go.Proofs.YtnhdmghgjngcaaaGreat
