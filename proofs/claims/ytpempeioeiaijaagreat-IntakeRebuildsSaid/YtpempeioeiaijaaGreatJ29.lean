import Derived.Test.YtpempeioeiaijaaGreatIntWI
import Derived.Test.YtpempeioeiaijaaGreatJ27
import Derived.Test.YtpempeioeiaijaaGreatJ25
import Derived.Test.YtpempeioeiaijaaGreatGB
import Derived.Test.YtpempeioeiaijaaGreatJ18
import Derived.Test.YtpempeioeiaijaaGreatJ12
import Derived.StillTailTactics
import Derived.Deep.CutBlock
set_option linter.unusedSimpArgs false
set_option linter.unusedVariables false
namespace Go.Proofs.YtpempeioeiaijaaGreat
open Go.RowKit Go.Sort

def ex1:List (List Pt):=[[⟨0,0⟩,⟨5,0⟩,⟨9,0⟩],[⟨5,0⟩,⟨5,5⟩]]
def ex2:List (List Pt):=[[⟨0,0⟩,⟨4,0⟩,⟨4,4⟩,⟨0,0⟩]]
def ex3:List (List Pt):=[[⟨0,0⟩,⟨9,0⟩],[⟨5,0⟩,⟨5,5⟩]]
theorem ex1_meet:meetL ex1=[⟨0,0⟩,⟨5,0⟩,⟨5,5⟩,⟨9,0⟩]:=by decide +kernel
theorem ex1_chk:chkL ex1=0:=by decide +kernel
theorem ex2_chk:chkL ex2=0:=by decide +kernel
theorem ex3_chk:chkL ex3=0:=by decide +kernel
theorem ex1_bld:bldZ ex1=0:=by decide +kernel
theorem ex2_bld:bldZ ex2=0:=by decide +kernel
theorem ex3_bld:bldZ ex3=11:=by decide +kernel
theorem ex1_lens:(bldP ex1).nodes.length=4∧(bldP ex1).arcs.length=3∧(bldP ex1).faces.length=0:=by decide +kernel
theorem ex1_lines:linesS (bldP ex1)=[[⟨0,0⟩,⟨5,0⟩],[⟨5,0⟩,⟨5,5⟩],[⟨5,0⟩,⟨9,0⟩]]:=by decide +kernel
theorem ex2_arcs:(bldP ex2).arcs.map (fun a=>(a.left,a.right))=[(1,0)]:=by decide +kernel
end Go.Proofs.YtpempeioeiaijaaGreat
namespace Go.Proofs.YtpempeioeiaijaaGreat
open Go.RowKit Go.Sort

theorem Lns19.two {w:World} {g0 g1 g2 n m c d:Nat} {t:TypeId} {l l':List Pt} (h:Blk w g2 t #[.slice (some ⟨g0,0,none⟩) n c,.slice (some ⟨g1,0,none⟩) m d]) (h0:Pts w (.slice (some ⟨g0,0,none⟩) n c) l) (h1:Pts w (.slice (some ⟨g1,0,none⟩) m d) l') :
  Lns19 w (.slice (some ⟨g2,0,none⟩) 2 2) [(⟨some ⟨g0,0,none⟩,n,c⟩,l),(⟨some ⟨g1,0,none⟩,m,d⟩,l')] :=
 ⟨Sl.lit (n:=2) h rfl (le_maxLen (by omega)),fun k hk=>by
  match k,hk with
  | 0,_=>exact h0
  | 1,_=>exact h1⟩
theorem Lns19.one {w:World} {g2 n c:Nat} {A:Option Addr} {t:TypeId} {l:List Pt} (h:Blk w g2 t #[.slice A n c]) (h0:Pts w (.slice A n c) l):Lns19 w (.slice (some ⟨g2,0,none⟩) 1 1) [(⟨A,n,c⟩,l)] :=
 ⟨Sl.lit (n:=1) h rfl (le_maxLen (by omega)),fun k hk=>by
  match k,hk with
  | 0,_=>exact h0⟩
theorem Lns19.three {w:World} {g2 n m r c d e:Nat} {A B C:Option Addr} {t:TypeId} {l l' l'':List Pt} (h:Blk w g2 t #[.slice A n c,.slice B m d,.slice C r e]) (h0:Pts w (.slice A n c) l) (h1:Pts w (.slice B m d) l') (h2:Pts w (.slice C r e) l'') :
  Lns19 w (.slice (some ⟨g2,0,none⟩) 3 3) [(⟨A,n,c⟩,l),(⟨B,m,d⟩,l'),(⟨C,r,e⟩,l'')] :=
 ⟨Sl.lit (n:=3) h rfl (le_maxLen (by omega)),fun k hk=>by
  match k,hk with
  | 0,_=>exact h0
  | 1,_=>exact h1
  | 2,_=>exact h2⟩
theorem PlV.open3 {w:World} {v:Value} {p:Pl} (h:PlV w v p):∃ An cn Aa ca Af cf,v=.agg #[.slice An p.nodes.length cn,.slice Aa p.arcs.length ca,.slice Af p.faces.length cf]:=by
 obtain ⟨_,_,_,al,rfl,hpa,⟨An,cn,rfl,-⟩,⟨⟨Aa,ca,rfl,-⟩,-⟩,⟨Af,cf,rfl,-⟩⟩:=h
 exact ⟨An,cn,Aa,ca,Af,cf,by rw [hpa,List.length_map]⟩

theorem ex1_short:(bldP ex1).arcs.all (fun a=>decide (a.via.length≤3))=true:=by decide +kernel

set_option maxRecDepth 100000 in
set_option maxHeartbeats 8000000 in
theorem Awake19_spec (w:World):Calls Tryz.prog 11 #[] w fun e w'=>e=.returned (.bool true)∧Below w.heap.size w w':=by
 go_enter Tryz.func11,Tryz.ntmps11
 go_upto_region 2 with fail
 obtain ⟨W1,hW⟩:∃ W:World,W=((w.alloc (.cells #[.int .i64 0,.int .i64 0,.int .i64 5,.int .i64 0,.int .i64 9,.int .i64 0] 42)).alloc (.cells #[.int .i64 5,.int .i64 0,.int .i64 5,.int .i64 5] 42)).alloc (.cells #[.slice (some ⟨w.heap.size,0,none⟩) 3 3,.slice (some ⟨w.heap.size+1,0,none⟩) 2 2] 25):=⟨_,rfl⟩
 have L1:Lns19 W1 (.slice (some ⟨w.heap.size+1+1,0,none⟩) 2 2) [(⟨some ⟨w.heap.size,0,none⟩,3,3⟩,[⟨0,0⟩,⟨5,0⟩,⟨9,0⟩]),(⟨some ⟨w.heap.size+1,0,none⟩,2,2⟩,[⟨5,0⟩,⟨5,5⟩])]:=by
  rw [hW]
  exact Lns19.two (Blk.made (by simp) _ _) (Sl.lit (n:=3) (((Blk.made rfl _ _).alloc _).alloc _) rfl (le_maxLen (by omega))) (Sl.lit (n:=2) ((Blk.made (by simp) _ _).alloc _) rfl (le_maxLen (by omega)))
 have HB1:=Lib.hid (show Below w.heap.size w W1 by rw [hW];exact bA (bA (bA (bR w) _) _) _)
 obtain ⟨g3,hg3⟩:∃ g3,w.heap.size+1+1=g3:=⟨_,rfl⟩
 rw [hg3] at L1
 have HPo:=Lib.hid (fun W (hW:Below W1.heap.size W1 W)=>show Calls Tryz.prog 12 #[.slice (some ⟨g3,0,none⟩) 2 2] W (RetPt19 W [⟨0,0⟩,⟨5,0⟩,⟨5,5⟩,⟨9,0⟩]) from by
  have h9:=Points19_ok _ _ W (L1.mono hW) (chkL_good.1 (show chkL ex1=0 from ex1_chk))
  have e9:meetL (([(⟨some ⟨w.heap.size,0,none⟩,3,3⟩,[⟨0,0⟩,⟨5,0⟩,⟨9,0⟩]),(⟨some ⟨w.heap.size+1,0,none⟩,2,2⟩,[⟨5,0⟩,⟨5,5⟩])] : List (SV×List Pt)).map (·.2))=[⟨0,0⟩,⟨5,0⟩,⟨5,5⟩,⟨9,0⟩]:=ex1_meet
  rw [e9] at h9
  exact h9)
 have HBu:=Lib.hid (fun W (hW:Below W1.heap.size W1 W)=>show Calls Tryz.prog 18 #[.slice (some ⟨g3,0,none⟩) 2 2] W (RetBld W ex1) from Build19_ok _ _ W (L1.mono hW) (chkL_good.1 (show chkL ex1=0 from ex1_chk)))
 rw [← hW]
 try rw [hg3]
 clear hW L1 hg3
 go_wp2_with fail
 refine (HPo.out _ (bR W1)).mono ?_
 rintro e w2 ⟨A2,c2,rfl,hb2,ho2⟩
 have HB2:=Lib.hid hb2
 have HPt:=Lib.hid (show Pts w2 (.slice A2 4 c2) [⟨0,0⟩,⟨5,0⟩,⟨5,5⟩,⟨9,0⟩] from Sl.of_own ho2)
 clear hb2 ho2 HPo
 go_wp2_with fail
 refine (HBu.out _ HB2.out).mono ?_
 rintro e w3 ⟨v3,rfl,hb3,hp3⟩
 rw [ex1_bld]
 have HP3:=Lib.hid hp3
 obtain ⟨An,cn,Aa,ca,Af,cf,hv3⟩:=hp3.open3
 rw [ex1_lens.1,ex1_lens.2.1,ex1_lens.2.2] at hv3
 subst hv3
 have HB3:=Lib.hid (bT (bT HB1.out HB2.out) hb3)
 have HPt3:=Lib.hid (HPt.out.mono hb3)
 clear hb3 hp3 HBu HPt HB2 HB1
 go_upto_region 4 with fail
 obtain ⟨g4,hg4⟩:∃ g4,w3.heap.size=g4:=⟨_,rfl⟩
 obtain ⟨W4,hW⟩:∃ W:World,W=w3.alloc (.cells #[.slice An 4 cn,.slice Aa 3 ca,.slice Af 0 cf] 34):=⟨_,rfl⟩
 have HA4:=Lib.hid (show Below w3.heap.size w3 W4 by rw [hW];exact bA (bR w3) _)
 have HX4:=Lib.hid (show Blk W4 g4 34 #[.slice An 4 cn,.slice Aa 3 ca,.slice Af 0 cf] by rw [hW];exact Blk.made hg4.symm _ _)
 rw [← hW]
 try rw [hg4]
 clear hW hg4
 have HBu2:=Lib.hid (fun W g g' (hx:Blk W g' 25 #[.slice (some ⟨g,0,none⟩) 4 4]) (h0:Blk W g 42 #[.int .i64 0,.int .i64 0,.int .i64 4,.int .i64 0,.int .i64 4,.int .i64 4,.int .i64 0,.int .i64 0])=>show Calls Tryz.prog 18 #[.slice (some ⟨g',0,none⟩) 1 1] W (RetBld W ex2) from
  Build19_ok _ [(⟨some ⟨g,0,none⟩,4,4⟩,[⟨0,0⟩,⟨4,0⟩,⟨4,4⟩,⟨0,0⟩])] W (Lns19.one hx (Sl.lit (n:=4) h0 rfl (le_maxLen (by omega)))) (chkL_good.1 (show chkL ex2=0 from ex2_chk)))
 have HBu3:=Lib.hid (fun W g g' g'' (hx:Blk W g'' 25 #[.slice (some ⟨g,0,none⟩) 2 2,.slice (some ⟨g',0,none⟩) 2 2]) (h0:Blk W g 42 #[.int .i64 0,.int .i64 0,.int .i64 9,.int .i64 0]) (h1:Blk W g' 42 #[.int .i64 5,.int .i64 0,.int .i64 5,.int .i64 5])=>show Calls Tryz.prog 18 #[.slice (some ⟨g'',0,none⟩) 2 2] W (RetBld W ex3) from
  Build19_ok _ [(⟨some ⟨g,0,none⟩,2,2⟩,[⟨0,0⟩,⟨9,0⟩]),(⟨some ⟨g',0,none⟩,2,2⟩,[⟨5,0⟩,⟨5,5⟩])] W (Lns19.two hx (Sl.lit (n:=2) h0 rfl (le_maxLen (by omega))) (Sl.lit (n:=2) h1 rfl (le_maxLen (by omega)))) (chkL_good.1 (show chkL ex3=0 from ex3_chk)))
 go_wp2_with fail
 refine (HBu2.out _ W4.heap.size _ (Blk.made (by simp) _ _) ((Blk.made rfl _ _).alloc _)).mono ?_
 rintro e w5 ⟨v5,rfl,hb5,hp5⟩
 rw [ex2_bld]
 have HP5:=Lib.hid hp5
 have hal2:(bldP ex2).arcs.length=1:=by have:=congrArg List.length ex2_arcs;simpa using this
 obtain ⟨Bn,dn,Ba,da,Bf,df,hv5⟩:=hp5.open3
 rw [hal2] at hv5
 obtain ⟨m1,hm1⟩:∃ m1,(bldP ex2).nodes.length=m1:=⟨_,rfl⟩
 obtain ⟨m2,hm2⟩:∃ m2,(bldP ex2).faces.length=m2:=⟨_,rfl⟩
 rw [hm1,hm2] at hv5
 subst hv5
 have HA5:=Lib.hid (bT (bA (bA (bR W4) _) _) hb5)
 have HX5:=Lib.hid (HX4.out.keep HA5.out)
 have HB5:=Lib.hid (bT (bT HB3.out HA4.out) HA5.out)
 have HQ5:=Lib.hid (bT HA4.out HA5.out)
 clear hb5 hp5 hal2 hm1 hm2 HBu2 HX4 HA4 HA5
 go_upto_region 5 with fail
 obtain ⟨g6,hg6⟩:∃ g6,w5.heap.size=g6:=⟨_,rfl⟩
 obtain ⟨W6,hW⟩:∃ W:World,W=w5.alloc (.cells #[.slice Bn m1 dn,.slice Ba 1 da,.slice Bf m2 df] 34):=⟨_,rfl⟩
 have HA6:=Lib.hid (show Below w5.heap.size w5 W6 by rw [hW];exact bA (bR w5) _)
 have HX6:=Lib.hid (show Blk W6 g6 34 #[.slice Bn m1 dn,.slice Ba 1 da,.slice Bf m2 df] by rw [hW];exact Blk.made hg6.symm _ _)
 rw [← hW]
 try rw [hg6]
 clear hW hg6
 go_wp2_with fail
 refine (HBu3.out _ W6.heap.size (W6.heap.size+1) _ (Blk.made (by simp) _ _) (((Blk.made rfl _ _).alloc _).alloc _) ((Blk.made (by simp) _ _).alloc _)).mono ?_
 rintro e w7 ⟨v7,rfl,hb7,hp7⟩
 rw [ex3_bld]
 obtain ⟨Cn,en,Ca,ea,Cf,ef,hv7⟩:=hp7.open3
 obtain ⟨k1,hk1⟩:∃ k1,(bldP ex3).nodes.length=k1:=⟨_,rfl⟩
 obtain ⟨k2,hk2⟩:∃ k2,(bldP ex3).arcs.length=k2:=⟨_,rfl⟩
 obtain ⟨k3,hk3⟩:∃ k3,(bldP ex3).faces.length=k3:=⟨_,rfl⟩
 rw [hk1,hk2,hk3] at hv7
 subst hv7
 have HA7:=Lib.hid (bT (bA (bA (bA (bR W6) _) _) _) hb7)
 have HA57:=Lib.hid (bT HA6.out HA7.out)
 have HX4:=Lib.hid (HX5.out.keep HA57.out)
 have HX7:=Lib.hid (HX6.out.keep HA7.out)
 have HB7:=Lib.hid (bT HB5.out HA57.out)
 have HP7:=Lib.hid (HP5.out.mono HA57.out)
 have HL7:=Lib.hid (HP3.out.mono (bT HQ5.out HA57.out))
 have HT7:=Lib.hid (HPt3.out.mono (bT HQ5.out HA57.out))
 clear hb7 hp7 hk1 hk2 hk3 HBu3 HX5 HX6 HA6 HA7 HA57 HP5 HP3 HPt3 HB5 HQ5 HB3
 go_upto_region 6 with fail
 obtain ⟨W8,hW⟩:∃ W:World,W=w7.alloc (.cells #[.slice Cn k1 en,.slice Ca k2 ea,.slice Cf k3 ef] 34):=⟨_,rfl⟩
 have HA8:=Lib.hid (show Below w7.heap.size w7 W8 by rw [hW];exact bA (bR w7) _)
 rw [← hW]
 clear hW
 have HX4':=Lib.hid (HX4.out.keep HA8.out);have HX6':=Lib.hid (HX7.out.keep HA8.out)
 have HB8:=Lib.hid (bT HB7.out HA8.out);have HP8:=Lib.hid (HP7.out.mono HA8.out);have HL8:=Lib.hid (HL7.out.mono HA8.out);have HT8:=Lib.hid (HT7.out.mono HA8.out)
 clear HX4 HX7 HB7 HP7 HL7 HT7 HA8
 have HS1:=Lib.hid (fun W g g' g'' (h0:Blk W g 25 #[.slice A2 4 c2]) (hp:Pts W (.slice A2 4 c2) [⟨0,0⟩,⟨5,0⟩,⟨5,5⟩,⟨9,0⟩]) (h1:Blk W g' 42 #[.int .i64 0,.int .i64 0,.int .i64 5,.int .i64 0,.int .i64 5,.int .i64 5,.int .i64 9,.int .i64 0]) (h2:Blk W g'' 25 #[.slice (some ⟨g',0,none⟩) 4 4]) =>
  show Calls Tryz.prog 14 #[.slice (some ⟨g,0,none⟩) 1 1,.slice (some ⟨g'',0,none⟩) 1 1] W fun e w'=>e=.returned (.bool true)∧Below W.heap.size W w' from
   Same19_spec _ _ [(⟨A2,4,c2⟩,[⟨0,0⟩,⟨5,0⟩,⟨5,5⟩,⟨9,0⟩])] [(⟨some ⟨g',0,none⟩,4,4⟩,[⟨0,0⟩,⟨5,0⟩,⟨5,5⟩,⟨9,0⟩])] W (Lns19.one h0 hp) (Lns19.one h2 (Sl.lit (n:=4) h1 rfl (le_maxLen (by omega)))) (by simp) (by simp) (fun k hk=>by match k,hk with | 0,_=>simp) (fun k hk=>by match k,hk with | 0,_=>simp))
 have HLi:=Lib.hid (fun v W (h:PlV W v (bldP ex1))=>Lines19_spec v (bldP ex1) W h (fun a ha=>by
  have:=List.all_eq_true.1 ex1_short a ha
  simp only [decide_eq_true_eq] at this
  omega) (by rw [ex1_lens.2.1];omega))
 go_wp2_with fail
 refine (HS1.out _ W8.heap.size (W8.heap.size+1) _ (((Blk.made rfl _ _).alloc _).alloc _) (HT8.out.mono (bA (bA (bA (bR W8) _) _) _)) ((Blk.made (by simp) _ _).alloc _) (Blk.made (by simp) _ _)).mono ?_
 rintro e w9 ⟨rfl,hb9⟩
 have HA9:=Lib.hid (bT (bA (bA (bA (bR W8) _) _) _) hb9)
 have HX9:=Lib.hid (HX4'.out.keep HA9.out);have HX6:=Lib.hid (HX6'.out.keep HA9.out)
 have HB9:=Lib.hid (bT HB8.out HA9.out);have HP9:=Lib.hid (HP8.out.mono HA9.out);have HL9:=Lib.hid (HL8.out.mono HA9.out)
 clear hb9 HA9 HX4' HX6' HB8 HP8 HL8 HT8 HS1
 have X4:=HX9.out
 obtain ⟨X4l,X4a,X4b,X4c,-,-,-⟩:=X4.facts3
 go_wp2_with fail
 refine (HLi.out _ _ HL9.out).mono ?_
 rintro e w10 ⟨A5,c5,ys,rfl,hb10,hl10,hy10⟩
 rw [ex1_lines] at hy10
 have HX10:=Lib.hid (HX6.out.keep hb10)
 have HB10:=Lib.hid (bT HB9.out hb10);have HP10:=Lib.hid (HP9.out.mono hb10)
 have HLn:=Lib.hid hl10.lns
 have hyl:ys.length=3:=by have:=congrArg List.length hy10;simpa using this
 have HYl:=Lib.hid hyl
 have HY:=Lib.hid hy10
 clear hb10 hl10 hy10 hyl HLi X4 X4l X4a X4b X4c HX9 HX6 HB9 HP9 HL9
 have HS2:=Lib.hid (fun W g0 g1 g2 g3 (hl:Lns19 W (.slice A5 ys.length c5) ys) (h0:Blk W g0 42 #[.int .i64 0,.int .i64 0,.int .i64 5,.int .i64 0]) (h1:Blk W g1 42 #[.int .i64 5,.int .i64 0,.int .i64 5,.int .i64 5]) (h2:Blk W g2 42 #[.int .i64 5,.int .i64 0,.int .i64 9,.int .i64 0]) (h3:Blk W g3 25 #[.slice (some ⟨g0,0,none⟩) 2 2,.slice (some ⟨g1,0,none⟩) 2 2,.slice (some ⟨g2,0,none⟩) 2 2]) =>
  show Calls Tryz.prog 14 #[.slice A5 ys.length c5,.slice (some ⟨g3,0,none⟩) 3 3] W fun e w'=>e=.returned (.bool true)∧Below W.heap.size W w' from by
   have h9:=Same19_spec _ _ ys [(⟨some ⟨g0,0,none⟩,2,2⟩,[⟨0,0⟩,⟨5,0⟩]),(⟨some ⟨g1,0,none⟩,2,2⟩,[⟨5,0⟩,⟨5,5⟩]),(⟨some ⟨g2,0,none⟩,2,2⟩,[⟨5,0⟩,⟨9,0⟩])] W hl (Lns19.three h3 (Sl.lit (n:=2) h0 rfl (le_maxLen (by omega))) (Sl.lit (n:=2) h1 rfl (le_maxLen (by omega))) (Sl.lit (n:=2) h2 rfl (le_maxLen (by omega)))) (by rw [HYl.out];omega) (by simp) (fun k hk=>by
    have h1:ys[k].2∈ys.map (·.2):=List.mem_map_of_mem (List.getElem_mem hk)
    rw [HY.out] at h1
    simp only [List.mem_cons,List.not_mem_nil,or_false] at h1
    rcases h1 with h | h | h<;>rw [h]<;>simp) (fun k hk=>by match k,hk with | 0,_=>simp | 1,_=>simp | 2,_=>simp)
   rw [HY.out] at h9
   exact h9)
 generalize ys.length=yn at *
 go_wp2_with fail
 refine (HS2.out _ w10.heap.size (w10.heap.size+1) (w10.heap.size+1+1) _ (HLn.out.mono (bA (bA (bA (bA (bR w10) _) _) _) _)) ((((Blk.made rfl _ _).alloc _).alloc _).alloc _) (((Blk.made (by simp) _ _).alloc _).alloc _) ((Blk.made (by simp) _ _).alloc _) (Blk.made (by simp) _ _)).mono ?_
 rintro e w11 ⟨rfl,hb11⟩
 have HA11:=Lib.hid (bT (bA (bA (bA (bA (bR w10) _) _) _) _) hb11)
 have X6:=HX10.out.keep HA11.out
 have HB11:=Lib.hid (bT HB10.out HA11.out)
 have hP:=HP10.out.mono HA11.out
 obtain ⟨va,vb,vc,al,hvv,hpa,-,⟨⟨Ba',da',hva,-,-,hRa⟩,-⟩,-⟩:=hP
 have hab:vb=.slice Ba 1 da:=by
  injection hvv with hvv
  have:=congrArg (fun a:Array Value=>a.toList) hvv
  simp only [List.cons.injEq,and_true] at this
  exact this.2.1.symm
 have harc:(al.map (·.1)).map (fun a=>(a.left,a.right))=[(1,0)]:=by rw [← hpa];exact ex2_arcs
 have hal:∃ a,al=[a]∧a.1.left=1∧a.1.right=0:=by
  have hl:al.length=1:=by have:=congrArg List.length harc;simpa using this
  obtain ⟨a,ha⟩:=List.length_eq_one_iff.1 hl
  rw [ha] at harc
  simp only [List.map_cons,List.map_nil,List.cons.injEq,Prod.mk.injEq,and_true] at harc
  exact ⟨a,ha,harc.1,harc.2⟩
 obtain ⟨a,rfl,ha1,ha2⟩:=hal
 rw [hab] at hva
 injection hva with hva e1 e2
 subst hva
 clear e1 e2
 obtain ⟨b,o,hBa,hlb,-,-,-,-,c4,c5⟩:=hRa.ar (k:=0) (by simp)
 simp only [List.getElem_cons_zero,Nat.zero_mul,Nat.add_zero] at c4 c5
 rw [ha1] at c4
 rw [ha2] at c5
 subst hBa
 clear hvv hab hpa harc ha1 ha2 hRa hb11 HS2 HX10 HB10 HP10 HLn HA11
 obtain ⟨X6l,X6a,X6b,X6c,-,-,-⟩:=X6.facts3
 go_wp2_with fail
 go_ret
 exact ⟨rfl,HB11.out⟩
end Go.Proofs.YtpempeioeiaijaaGreat
namespace Go.Proofs.YtpempeioeiaijaaGreat
open Go.RowKit

def boxGrow (x:Bx) (v:Pt):Bx:=⟨min x.x0 v.x,min x.y0 v.y,max x.x1 v.x,max x.y1 v.y⟩
def boxL (l:List Pt):Bx:=match l with
 | []=>⟨0,0,-1,-1⟩
 | v::_=>l.foldl boxGrow ⟨v.x,v.y,v.x,v.y⟩
end Go.Proofs.YtpempeioeiaijaaGreat
namespace Go.Proofs.YtpempeioeiaijaaGreat
open Go.RowKit

def boxC (x:Bx):Array Value:=#[.int .i64 x.x0,.int .i64 x.y0,.int .i64 x.x1,.int .i64 x.y1]
end Go.Proofs.YtpempeioeiaijaaGreat
namespace Go.Proofs.YtpempeioeiaijaaGreat
open Go.RowKit

theorem Row.ptsAll_ {w:World} {A:Option Addr} {l:List Pt} (h:Row w A (l.flatMap ptC)) (h0:0<l.length) :
  ∃ b o,A=some ⟨b,o,none⟩∧b<w.heap.size∧∀ j (hj:j<l.length),w.cell? ⟨b,o+j*2,none⟩=some (.int .i64 l[j].x)∧w.cell? ⟨b,o+j*2+1,none⟩=some (.int .i64 l[j].y):=by
 obtain ⟨b,o,hA,hb,-⟩:=h.pt h0
 refine ⟨b,o,hA,hb,fun j hj=>?_⟩
 obtain ⟨b',o',hA',-,c0,c1⟩:=h.pt hj
 rw [hA] at hA'
 obtain ⟨rfl,rfl⟩:b=b'∧o=o':=by simpa using hA'
 exact ⟨c0,c1⟩
theorem struct_bx10:StructOf Tryz.prog 59 4:=.mk_ Tryz.underlying59 (by kernel_rfl)
set_option maxRecDepth 100000 in
set_option maxHeartbeats 8000000 in
theorem RBounds_pos (v:Value) (l:List Pt) (w:World) (h:Pts w v l) (hpos:0<l.length) :
  Calls Tryz.prog 32 #[v] w fun e w'=>e=.returned (.agg (boxC (boxL l)))∧Below w.heap.size w w':=by
 obtain ⟨A,c,rfl,h1,h2,hR⟩:=h
 unfold maxLen at h2
 obtain ⟨b,o,rfl,hlb,hc⟩:=Row.ptsAll_ hR hpos
 obtain ⟨u0,u1⟩:=hc 0 hpos
 simp only [Nat.zero_mul,Nat.add_zero] at u0 u1
 obtain ⟨r,hr⟩:∃ r,boxL l=r:=⟨_,rfl⟩
 rw [hr]
 have HR:=Lib.hid (show l.foldl boxGrow ⟨l[0].x,l[0].y,l[0].x,l[0].y⟩=r by
  rw [← hr]
  cases l with
  | nil=>simp at hpos
  | cons p l=>rfl)
 have HI:=Lib.hid (show (⟨l[0].x,l[0].y,l[0].x,l[0].y⟩:Bx)=(l.take 1).foldl boxGrow ⟨l[0].x,l[0].y,l[0].x,l[0].y⟩ by
  cases l with
  | nil=>simp at hpos
  | cons p l =>
   show _=boxGrow ⟨p.x,p.y,p.x,p.y⟩ p
   unfold boxGrow
   simp)
 have HC:=Lib.hid hc
 obtain ⟨ln,hln⟩:∃ ln,l.length=ln:=⟨_,rfl⟩
 have HLn:=Lib.hid hln
 rw [hln] at h1 hpos ⊢
 obtain ⟨p0,hp0⟩:∃ p,l[0]=p:=⟨_,rfl⟩
 rw [hp0] at u0 u1 HR HI
 clear hr hc hR hp0 hln
 have v1:(0:Int)<ln:=by omega
 have v2:((ln:Int) == 0)=false:=by simp;omega
 have v3:¬ ln=0:=by omega
 unfold boxC
 obtain ⟨g2,hg2⟩:∃ g,w.heap.size=g:=⟨_,rfl⟩
 obtain ⟨W,hW⟩:∃ W:World,W=w.alloc (.cells #[.int .i64 0,.int .i64 0,.int .i64 0,.int .i64 0] 59):=⟨_,rfl⟩
 have hA:Below w.heap.size w W:=by rw [hW];exact bA (bR w) _
 have X2:Blk W g2 59 #[.int .i64 0,.int .i64 0,.int .i64 0,.int .i64 0]:=by rw [hW];exact Blk.made hg2.symm _ _
 have HB:=Lib.hid hA
 have HX2:=Lib.hid X2
 go_enter Tryz.func32,Tryz.ntmps32
 go_upto_region 3 with fail
 try rw [← hW]
 have hgw:w.heap.size≤g2:=by omega
 have hbg:b<g2:=by omega
 have hbW:b<W.heap.size:=Nat.lt_of_lt_of_le hlb hA.size
 replace u0:=keepc hA u0
 replace u1:=keepc hA u1
 clear hW hg2 hA
 go_cut [3] (fun u wx=>∃ g3,u=.pointer (some ⟨g3,0,none⟩)∧Blk wx g3 59 #[.int .i64 p0.x,.int .i64 p0.y,.int .i64 p0.x,.int .i64 p0.y]∧W.heap.size≤g3∧Below W.heap.size W wx)
 case first =>
  refine rg_start (SinceB (W.heap.size) W) (.run 17 0 0 (.call 17 262143 (.call 18 524287 (.done)))) (by kernel_rfl) (Below.drew (Below.refl _ _)) (by kernel_rfl) (by kernel_rfl) (Nat.le_of_ble_eq_true (by kernel_rfl)) ?_
  intro opsR QR Hops HQrg hS
  iterate 17
   apply rg_pB;exact Hops;exact rfl;exact hS;exact rfl
   · intro _ hqc;go_simp;try rfl
   try simp only [pu]
  refine rg_call (i:=17) (get_of Hops rfl) (fun K hK=>?_)
  have HSrg:=Lib.hid hS;clear hS
  refine rg_run (wanted_plain rfl) ?_
  go_simp
  have XQy:Below (W.heap.size) W (W.drew):=HSrg.out
  have XQz:W.heap.size≤(W.drew).heap.size:=Nat.le_trans (by omega) (show Below (W.heap.size) W (W.drew) from HSrg.out).size
  refine hK.out _ _ (bAB (by omega) HSrg.out _) (fun hS=>?_)
  clear hK K HSrg
  try replace XQ:=XQ.alloc (.cells #[.int .i64 0,.int .i64 0,.int .i64 0,.int .i64 0] 59)
  have XQ:=Blk.new (W.drew) 59 #[.int .i64 0,.int .i64 0,.int .i64 0,.int .i64 0]
  try simp only [World.size_drew,World.size_alloc] at XQ XQz
  try simp only [pu]
  refine rg_call (i:=18) (get_of Hops rfl) (fun K hK=>?_)
  have HSrg:=Lib.hid hS;clear hS
  refine rg_run (wanted_plain rfl) ?_
  obtain ⟨XQl,XQa,XQb,XQc,XQd,XQe,XQf,XQg,XQh⟩:=XQ.facts4
  go_simp
  refine hK.out _ _ (by unfold SinceB;have h:Below _ _ _:=HSrg.out;repeat (first | with_reducible assumption | with_reducible exact Below.refl _ _ | with_reducible refine bSB ?_ (by first | omega | (simp;omega)) _ | with_reducible refine Below.drew ?_ | with_reducible refine bAB (by omega) ?_ _ | exact h)) ?_
  intro hS
  clear hK K HSrg
  try simp only [pu]
  refine rg_done ?_
  refine HQrg.down _ _ ?_
  have hB:Below (W.heap.size) W _:=hS
  clear hS HQrg Hops
  go_wp2_with fail
  go_meet
  case rel => exact ⟨_,rfl,(by first | with_reducible exact Blk.put4 XQ | with_reducible exact Blk.made rfl _ _ | with_reducible exact Blk.drew (Blk.made rfl _ _)),(by first | omega | (simp;done) | (simp;omega)),hB⟩
 case rest =>
 obtain ⟨g3,rfl,X3,hg3,hb3⟩:=hcut
 obtain ⟨W3,hW3⟩:∃ W3:World,W3=wc:=⟨_,rfl⟩
 rw [← hW3] at X3 hb3 ⊢
 have HB3:=Lib.hid (bT HB.out hb3)
 have HX23:=Lib.hid (HX2.out.keep hb3)
 have HX3:=Lib.hid X3
 have hg23:g2<g3:=by have:=HX2.out.lt;omega
 have hgw3:w.heap.size≤g3:=by omega
 have hb3':b<g3:=by omega
 clear hW3 hb3 X3 X2 u0 u1 hbW
 go_wp2_with fail
 go_loopw [4] (fun u wr=>∃ (k:Nat) (x:Bx),1≤k∧k≤ln∧u=.int .i64 k∧x=(l.take k).foldl boxGrow ⟨p0.x,p0.y,p0.x,p0.y⟩∧Blk wr g3 59 #[.int .i64 x.x0,.int .i64 x.y0,.int .i64 x.x1,.int .i64 x.y1]∧Below g3 W3 wr) (fun u _=>ln-(intOf u).toNat)
 case atStart => exact ⟨1,⟨p0.x,p0.y,p0.x,p0.y⟩,Nat.le_refl _,hpos,rfl,HI.out,HX3.out,Below.refl _ _⟩
 case round =>
  obtain ⟨k,x,hk1,hk,rfl,hx,X3,hb⟩:=hrel
  have Hb:=Lib.hid hb;have HX:=Lib.hid hx;have HX3r:=Lib.hid X3
  have l3:=X3.lt
  have HBw:=Lib.hid (show Below w.heap.size w wr from HB3.out.trans (hb.mono hgw3))
  clear hb hx
  by_cases hlt:k<ln
  ·
   have hkl:k<l.length:=by rw [HLn.out];exact hlt
   obtain ⟨c0,c1⟩:=HC.out k hkl
   replace c0:=keepc HBw.out c0
   replace c1:=keepc HBw.out c1
   have hst:(l.take (k+1)).foldl boxGrow ⟨p0.x,p0.y,p0.x,p0.y⟩=boxGrow x l[k]:=by
    rw [List.take_succ_eq_append_getElem hkl,List.foldl_append,← HX.out];rfl
   unfold boxGrow at hst
   have HSt:=Lib.hid hst
   obtain ⟨q,hq⟩:∃ q,l[k]=q:=⟨_,rfl⟩
   rw [hq] at c0 c1 HSt
   clear hq hst hkl
   have hbr:b<wr.heap.size:=by omega
   have hne:some b≠some g3:=fun e=>by have:=Option.some.inj e;omega
   have r1:0≤(k:Int):=by omega
   have r2:(k:Int)<ln:=by omega
   obtain ⟨X3l,X3a,X3b,X3c,X3d,X3fa,X3fb,X3fc,X3fd⟩:=X3.facts4
   go_upto_region 7 with fail
   have hmn:(⟨if q.x<x.x0 then q.x else x.x0,if q.y<x.y0 then q.y else x.y0,if x.x1<q.x then q.x else x.x1,if x.y1<q.y then q.y else x.y1⟩:Bx)=⟨min x.x0 q.x,min x.y0 q.y,max x.x1 q.x,max x.y1 q.y⟩:=by
    congr 1
    · split<;>omega
    · split<;>omega
    · split<;>omega
    · split<;>omega
   have HMn:=Lib.hid hmn
   clear hmn
   go_still_tail 33,(by kernel_rfl)
   change wpList _ _ _ _ _ wr.drew
   have X3d:=HX3r.out.drew
   have HX3d:=Lib.hid X3d
   have hbd:Below g3 W3 wr.drew:=Below.drew Hb.out
   obtain ⟨wd,hwd⟩:∃ wd:World,wd=wr.drew:=⟨_,rfl⟩
   have HBd:=Lib.hid hbd
   rw [← hwd] at X3d HX3d HBd ⊢
   clear hwd hbd X3 X3l X3a X3b X3c c0 c1
   obtain ⟨X3dl,X3da,X3db,X3dc,X3dd,X3dfa,X3dfb,X3dfc,X3dfd⟩:=X3d.facts4
   go_wp2_with fail
   go_roundw
   case rel => first | exact ⟨k+1,_,by omega,by omega,by go_num,HMn.out.trans HSt.out.symm,HX3d.out.put4,(((HBd.out.setCell (p:=⟨g3,0,none⟩) (Nat.le_refl _) _).setCell (p:=⟨g3,1,none⟩) (Nat.le_refl _) _).setCell (p:=⟨g3,2,none⟩) (Nat.le_refl _) _).setCell (p:=⟨g3,3,none⟩) (Nat.le_refl _) _⟩ | exact ⟨k+1,_,by omega,by omega,by go_num,HSt.out.symm,HX3d.out.put4,(((HBd.out.setCell (p:=⟨g3,0,none⟩) (Nat.le_refl _) _).setCell (p:=⟨g3,1,none⟩) (Nat.le_refl _) _).setCell (p:=⟨g3,2,none⟩) (Nat.le_refl _) _).setCell (p:=⟨g3,3,none⟩) (Nat.le_refl _) _⟩
   case measure => simp [intOf];omega
  ·
   have hxr:x=r:=by rw [HX.out,List.take_of_length_le (by have:=HLn.out;omega),HR.out]
   have HXr:=Lib.hid hxr
   have r2:¬ (k:Int)<ln:=by omega
   clear hxr
   have X2:=HX23.out.below Hb.out hg23
   have HX2r:=Lib.hid X2
   try clear X3l
   try clear X3a
   try clear X3b
   try clear X3c
   try clear X3d
   try clear X3fa
   try clear X3fb
   try clear X3fc
   try clear X3fd
   obtain ⟨X3l,X3a,X3b,X3c,X3d,-,-,-,-⟩:=X3.facts4
   obtain ⟨X2l,X2a,X2b,X2c,X2d,X2fa,X2fb,X2fc,X2fd⟩:=X2.facts4
   go_wp2_with fail
   refine res_cell (g:=g2) (cs:=#[.int .i64 x.x0,.int .i64 x.y0,.int .i64 x.x1,.int .i64 x.y1]) rfl struct_bx10 rfl rfl (Blk.put4 HX2r.out) ⟨by rw [HXr.out],?_⟩
   exact (((HBw.out.setCell (p:=⟨g2,0,none⟩) hgw _).setCell (p:=⟨g2,1,none⟩) hgw _).setCell (p:=⟨g2,2,none⟩) hgw _).setCell (p:=⟨g2,3,none⟩) hgw _
set_option maxHeartbeats 2000000 in
theorem RBounds_nil (v:Value) (w:World) (h:Pts w v []):Calls Tryz.prog 32 #[v] w fun e w'=>e=.returned (.agg (boxC (boxL [])))∧Below w.heap.size w w':=by
 obtain ⟨A,c,rfl,-⟩:=h
 have hz:(([] : List Pt).length:Int)=0:=rfl
 unfold boxC boxL
 simp only [List.length_nil]
 obtain ⟨g2,hg2⟩:∃ g,w.heap.size=g:=⟨_,rfl⟩
 obtain ⟨W,hW⟩:∃ W:World,W=w.alloc (.cells #[.int .i64 0,.int .i64 0,.int .i64 0,.int .i64 0] 59):=⟨_,rfl⟩
 have hA:Below w.heap.size w W:=by rw [hW];exact bA (bR w) _
 have X2:Blk W g2 59 #[.int .i64 0,.int .i64 0,.int .i64 0,.int .i64 0]:=by rw [hW];exact Blk.made hg2.symm _ _
 have HB:=Lib.hid hA
 have HX2:=Lib.hid X2
 go_enter Tryz.func32,Tryz.ntmps32
 go_upto_region 1 with fail
 rw [← hW]
 try rw [hg2]
 have hgw:w.heap.size≤g2:=by omega
 clear hW hg2 hA
 obtain ⟨X2l,X2a,X2b,X2c,X2d,X2fa,X2fb,X2fc,X2fd⟩:=X2.facts4
 go_wp2_with fail
 refine res_cell (g:=g2) (cs:=#[.int .i64 0,.int .i64 0,.int .i64 (-1),.int .i64 (-1)]) rfl struct_bx10 rfl rfl (Blk.put4 HX2.out) ⟨rfl,?_⟩
 exact (((HB.out.setCell (p:=⟨g2,0,none⟩) hgw _).setCell (p:=⟨g2,1,none⟩) hgw _).setCell (p:=⟨g2,2,none⟩) hgw _).setCell (p:=⟨g2,3,none⟩) hgw _
theorem RBounds_spec (v:Value) (l:List Pt) (w:World) (h:Pts w v l):Calls Tryz.prog 32 #[v] w fun e w'=>e=.returned (.agg (boxC (boxL l)))∧Below w.heap.size w w':=by
 cases l with
 | nil=>exact RBounds_nil v w h
 | cons p l=>exact RBounds_pos v (p::l) w h (by simp)
end Go.Proofs.YtpempeioeiaijaaGreat
namespace Go.Proofs.YtpempeioeiaijaaGreat
open Go.RowKit

structure Lgt (p:Pl):Prop where
 nodes:p.nodes.length≤30
 arcs:p.arcs.length≤30
 faces:p.faces.length≤30
 vias:∀ a∈p.arcs,a.via.length≤180
def RetLgt (w:World) (p:Pl) (e:Ending) (w':World):Prop:=∃ b,e=.returned (.bool b)∧(b=true→Lgt p)∧Below w.heap.size w w'
set_option maxRecDepth 100000 in
set_option maxHeartbeats 8000000 in
theorem Light16_spec (v:Value) (p:Pl) (w:World) (h:PlV w v p) (hsz:∀ a∈p.arcs,a.via.length≤9223372036854775000):Calls Tryz.prog 15 #[v] w (RetLgt w p):=by
 have HSz:=Lib.hid hsz
 clear hsz
 obtain ⟨_,_,_,al,rfl,hpa,⟨An,cn,rfl,hn1,hn2,hR⟩,⟨⟨Aa,ca,rfl,hm1,hm2,hRa⟩,hVi⟩,⟨Af,cf,rfl,-⟩⟩:=h
 have HRn:=Lib.hid hR;have HRa:=Lib.hid hRa;have HVi:=Lib.hid hVi
 have HPa:=Lib.hid hpa
 have hnv:p.arcs.length=al.length:=by rw [hpa,List.length_map]
 obtain ⟨nn,hnn⟩:∃ n,p.nodes.length=n:=⟨_,rfl⟩
 obtain ⟨na,hna⟩:∃ n,al.length=n:=⟨_,rfl⟩
 obtain ⟨nf,hnf⟩:∃ n,p.faces.length=n:=⟨_,rfl⟩
 have HNn:=Lib.hid hnn;have HNa:=Lib.hid hna;have HNf:=Lib.hid hnf;have HNv:=Lib.hid hnv
 rw [hnn,hna,hnf]
 clear hR hRa hVi hpa hnv hnn hna hnf hn1 hn2 hm1 hm2
 go_enter Tryz.func15,Tryz.ntmps15
 go_upto_region 1 with fail
 obtain ⟨W1,hW⟩:∃ W:World,W=w.alloc (.cells #[.slice An nn cn,.slice Aa na ca,.slice Af nf cf] 34):=⟨_,rfl⟩
 have X1:Blk W1 w.heap.size 34 #[.slice An nn cn,.slice Aa na ca,.slice Af nf cf]:=by rw [hW];exact Blk.made rfl _ _
 have HB1:=Lib.hid (show Below w.heap.size w W1 by rw [hW];exact bA (bR w) _)
 obtain ⟨g1,h1⟩:∃ g,w.heap.size=g:=⟨_,rfl⟩
 have hg1:w.heap.size≤g1:=by omega
 rw [← hW]
 rw [h1] at X1 ⊢
 have HX1:=Lib.hid X1
 clear hW h1
 obtain ⟨X1l,X1a,X1b,X1c,-,-,-⟩:=X1.facts3
 by_cases h1:30<nn
 ·
  have k1:(30:Int)<nn:=by omega
  go_wp2_with fail
  go_ret
  exact ⟨false,rfl,fun h=>(by cases h),HB1.out⟩
 by_cases h2:30<na
 ·
  have k1:¬ (30:Int)<nn:=by omega
  have k2:(30:Int)<na:=by omega
  go_wp2_with fail
  go_ret
  exact ⟨false,rfl,fun h=>(by cases h),HB1.out⟩
 by_cases h3:30<nf
 ·
  have k1:¬ (30:Int)<nn:=by omega
  have k2:¬ (30:Int)<na:=by omega
  have k3:(30:Int)<nf:=by omega
  go_wp2_with fail
  go_ret
  exact ⟨false,rfl,fun h=>(by cases h),HB1.out⟩
 have k1:¬ (30:Int)<nn:=by omega
 have k2:¬ (30:Int)<na:=by omega
 have k3:¬ (30:Int)<nf:=by omega
 go_upto_block 0 with fail
 clear k1 k2 k3 X1 X1l X1a X1b X1c
 go_wp2_with fail
 go_loopw [4,3] (fun i s wr=>∃ (k:Nat) (l:List Pt),k≤nn∧i=.int .i64 k∧(∃ A c,s=.slice A l.length c)∧Own wr W1.heap.size 42 2 ptC s l∧l.length=k∧Below W1.heap.size W1 wr) (fun i _ _=>nn-(intOf i).toNat)
 case atStart => exact ⟨0,[],Nat.zero_le _,rfl,⟨_,_,rfl⟩,Own.nil _ _ _ _ _,rfl,bR W1⟩
 case round =>
  obtain ⟨k,l,hk,rfl,⟨A,c,rfl⟩,ho,hl,hb⟩:=hrel
  obtain ⟨wo,rfl⟩:∃ wo:World,wo=wr:=⟨_,rfl⟩
  have HO:=Lib.hid ho;have Hb:=Lib.hid hb;have HLk:=Lib.hid hl
  have hlk:l.length≤30:=by omega
  have X1:=HX1.out.keep hb
  clear ho hb hl
  by_cases hlt:k<nn
  ·
   obtain ⟨b,o,hA,hlb,c0,c1,c2⟩:=(HRn.out.mono (bT HB1.out Hb.out)).nd (k:=k) (by rw [HNn.out];exact hlt)
   subst hA
   generalize p.nodes[k]'_=x at *
   obtain ⟨id,x0,y0⟩:=x
   simp only at c0 c1 c2
   have hw1:=Hb.out.size
   have hsh:(l++[(⟨x0,y0⟩:Pt)]).length=l.length+1:=by simp
   have HSh:=Lib.hid hsh
   clear hsh
   try clear X1l
   try clear X1a
   try clear X1b
   try clear X1c
   obtain ⟨X1l,X1a,X1b,X1c,-,-,-⟩:=X1.facts3
   go_wp2_with
    (at_builtin
     refine wpList_appl _ rfl (.tmp 30) (.tmp 37) _ rfl (base:=W1.heap.size) elem_pt ptC_len ptC_one rfl (Own.alloc HO.out _) rfl (l2:=[(⟨x0,y0⟩:Pt)]) (Sl.lit (n:=1) (Blk.made rfl _ _) rfl (le_maxLen (by omega))) (by simp only [List.length_cons,List.length_nil];omega) (by simp only [List.length_cons,List.length_nil];omega) (by simp;omega) ?_
     intro v3 w3 ho3 hg3 hat3
     obtain ⟨A3,c3,hv3,-⟩:=ho3.sl
     rw [HSh.out] at hv3
     subst hv3
     have HO3:=Lib.hid ho3
     have HB3:=Lib.hid (show Below W1.heap.size W1 w3 from bG (bA Hb.out _) hg3 (fun g hg=>(HO.out.lt g hg).1))
     clear ho3 hg3 hat3 X1 X1l X1a X1b X1c)
   go_roundw
   case rel => exact ⟨k+1,l++[⟨x0,y0⟩],by omega,by go_num,⟨A3,c3,by rw [HSh.out]⟩,HO3.out,by rw [HSh.out,HLk.out],HB3.out⟩
   case measure => simp [intOf];omega
  ·
   obtain rfl:k=nn:=by omega
   obtain ⟨wA,rfl⟩:∃ wA:World,wA=wo:=⟨_,rfl⟩
   have hlA:l.length≤30:=hlk
   clear HLk
   try clear X1l
   try clear X1a
   try clear X1b
   try clear X1c
   obtain ⟨X1l,X1a,X1b,X1c,-,-,-⟩:=X1.facts3
   go_upto_block 2 with fail
   clear X1 X1l X1a X1b X1c
   go_wp2_with fail
   go_loopw [5,3] (fun i s wr=>∃ (k:Nat) (l:List Pt),k≤na∧i=.int .i64 k∧(∃ A c,s=.slice A l.length c)∧Own wr W1.heap.size 42 2 ptC s l∧l.length≤180∧(∀ j (hj:j<al.length),j<k→al[j].1.via.length≤180)∧Below W1.heap.size W1 wr) (fun i _ _=>na-(intOf i).toNat)
   case atStart => exact ⟨0,l,Nat.zero_le _,rfl,⟨_,_,rfl⟩,HO.out,by omega,fun j _ hj=>by omega,Hb.out⟩
   case round =>
    obtain ⟨k,l,hk,rfl,⟨A,c,rfl⟩,ho,hl,hvs,hb⟩:=hrel
    obtain ⟨wo,rfl⟩:∃ wo:World,wo=wr:=⟨_,rfl⟩
    have HO:=Lib.hid ho;have Hb:=Lib.hid hb;have HVs:=Lib.hid hvs
    have X1:=HX1.out.keep hb
    have hw1:=hb.size
    clear ho hb hvs
    by_cases hlt:k<na
    ·
     have hka:k<al.length:=by rw [HNa.out];exact hlt
     obtain ⟨b,o,hA,hlb,c0,c1,c2,c3,c4,c5⟩:=(HRa.out.mono (bT HB1.out Hb.out)).ar hka
     subst hA
     have hvv:=fun W (hW:Below w.heap.size w W)=>(HVi.out k hka).mono hW
     have hvz:al[k].1.via.length≤9223372036854775000:=HSz.out _ (by rw [HPa.out];exact List.mem_map_of_mem (List.getElem_mem hka))
     have HVn:=Lib.hid (fun (h:al[k].1.via.length≤180)=>show ∀ j (hj:j<al.length),j<k+1→al[j].1.via.length≤180 from fun j hj hjk=>by
      by_cases e:j=k
      · subst e;exact h
      · exact HVs.out j hj (by omega))
     generalize al[k]=x at *
     obtain ⟨a,u⟩:=x
     simp only at c3 hvv HVn hvz
     obtain ⟨Av,cv,hue,hv1,hv2,-⟩:=hvv w (bR w)
     subst hue
     have HVv:=Lib.hid hvv
     unfold maxLen at hv2
     obtain ⟨V,hV⟩:∃ V,a.via=V:=⟨_,rfl⟩
     rw [hV] at hv1 c3 HVv HVn hvz
     clear hV hvv c0 c1 c2 c4 c5
     have i1:0≤(k:Int):=by omega
     have i2:(k:Int)<na:=by omega
     have HB2:=Lib.hid (bT HB1.out Hb.out)
     try clear X1l
     try clear X1a
     try clear X1b
     try clear X1c
     obtain ⟨X1l,X1a,X1b,X1c,-,-,-⟩:=X1.facts3
     by_cases hbig:180<l.length+V.length
     ·
      have hs1:(180:Int)<(l.length:Int)+V.length:=by omega
      have kw:IntKind.i64.wrap ((l.length:Int)+V.length)=l.length+V.length:=IntWalk.i64_in _ (by omega)
      go_wp2_with fail
      go_ret
      exact ⟨false,rfl,fun h=>(by cases h),HB2.out⟩
     ·
      have hs1:¬ (180:Int)<(l.length:Int)+V.length:=by omega
      have kw:IntKind.i64.wrap ((l.length:Int)+V.length)=l.length+V.length:=IntWalk.i64_in _ (by omega)
      have hsh:(l++V).length=l.length+V.length:=List.length_append
      have HSh:=Lib.hid hsh
      clear hsh
      go_wp2_with
       (at_builtin
        refine wpList_appl _ rfl (.tmp 57) (.tmp 63) _ rfl (base:=W1.heap.size) elem_pt ptC_len ptC_one rfl HO.out rfl (l2:=V) (HVv.out _ HB2.out) (by omega) (by omega) (by omega) ?_
        intro v3 w3 ho3 hg3 hat3
        obtain ⟨A3,c3',hv3,-⟩:=ho3.sl
        rw [HSh.out] at hv3
        subst hv3
        have HO3:=Lib.hid ho3
        have HB3:=Lib.hid (show Below W1.heap.size W1 w3 from bG Hb.out hg3 (fun g hg=>(HO.out.lt g hg).1))
        clear ho3 hg3 hat3 X1 X1l X1a X1b X1c)
      go_roundw
      case rel => exact ⟨k+1,l++V,by omega,by go_num,⟨A3,c3',by rw [HSh.out]⟩,HO3.out,by rw [HSh.out];omega,HVn.out (by omega),HB3.out⟩
      case measure => simp [intOf];omega
    ·
     obtain rfl:k=na:=by omega
     have HLg:=Lib.hid (show Lgt p from ⟨by rw [HNn.out];omega,by rw [HNv.out,HNa.out];omega,by rw [HNf.out];omega,fun a ha=>by
      rw [HPa.out] at ha
      obtain ⟨z,hz,rfl⟩:=List.mem_map.1 ha
      obtain ⟨j,hj,rfl⟩:=List.mem_iff_getElem.1 hz
      exact HVs.out j hj (by rw [← HNa.out];exact hj)⟩)
     have hbo:=RBounds_spec _ l wo HO.out.sl
     unfold boxC at hbo
     generalize boxL l=bx at *
     obtain ⟨x0,y0,x1,y1⟩:=bx
     simp only at hbo
     have HBo:=Lib.hid hbo
     clear hbo HVs
     try clear X1l
     try clear X1a
     try clear X1b
     try clear X1c
     obtain ⟨X1l,X1a,X1b,X1c,-,-,-⟩:=X1.facts3
     go_wp2_with fail
     refine HBo.out.mono ?_
     rintro e w5 ⟨rfl,hb5⟩
     have HB5:=Lib.hid (bT (bT HB1.out Hb.out) hb5)
     clear hb5 HBo X1 X1l X1a X1b X1c
     go_wp2_with fail
     all_goals
      go_ret
      exact ⟨_,rfl,fun _=>HLg.out,bA HB5.out _⟩
end Go.Proofs.YtpempeioeiaijaaGreat
