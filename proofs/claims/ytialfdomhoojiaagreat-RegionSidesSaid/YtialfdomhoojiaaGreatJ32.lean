import Derived.Test.YtialfdomhoojiaaGreatJ14
import Derived.Test.YtialfdomhoojiaaGreatJ15
import Derived.Test.YtialfdomhoojiaaGreatJ31
import Derived.Test.YtialfdomhoojiaaGreatJ28
import Derived.Test.YtialfdomhoojiaaGreatJ17
import Derived.Test.YtialfdomhoojiaaGreatJ30
set_option linter.unusedSimpArgs false
set_option linter.unusedVariables false
namespace Go.Proofs.YtialfdomhoojiaaGreat
open Go.RowKit

def boxC (x:Bx):Array Value:=#[.int .i64 x.x0,.int .i64 x.y0,.int .i64 x.x1,.int .i64 x.y1]
set_option maxRecDepth 100000 in
set_option maxHeartbeats 4000000 in
theorem RingBounds_spec (v:Value) (l:List Pt) (w:World) (h:Pts w v l) (hne:0<l.length):Calls Tryz.prog 81 #[v] w fun e w'=>e=.returned (.agg (boxC (boxL l)))∧Below w.heap.size w w':=by
 obtain ⟨A,c,rfl,hn1,hn2,hR⟩:=h
 unfold maxLen at hn2
 have HR:=Lib.hid hR
 obtain ⟨b,o,rfl,hlb,c0,c1⟩:=hR.pt hne
 simp only [Nat.zero_mul,Nat.add_zero] at c0 c1
 obtain ⟨R,hRr⟩:∃ R,boxL l=R:=⟨_,rfl⟩
 rw [hRr]
 have hR2:l.foldl boxGrow ⟨l[0].x,l[0].y,l[0].x,l[0].y⟩=R:=by
  rw [← hRr]
  cases l with
  | nil=>cases hne
  | cons a l=>rfl
 obtain ⟨p0,hp0⟩:∃ p0,l[0]=p0:=⟨_,rfl⟩
 rw [hp0] at c0 c1 hR2
 have HRr:=Lib.hid hR2
 have hk0:(0:Int)<l.length:=by omega
 have hkn:¬ l=[]:=fun e=>by rw [e] at hne;cases hne
 have hkz:((l.length:Int) == 0)=false:=by rw [beq_eq_false_iff_ne];omega
 have hkz2:(l.length == 0)=false:=by rw [beq_eq_false_iff_ne];omega
 clear hR hRr hR2 hp0
 go_enter Tryz.func81,Tryz.ntmps81
 go_upto_region 1 with fail
 obtain ⟨W1,hW⟩:∃ W:World,W=w.alloc (.cells #[.int .i64 0,.int .i64 0,.int .i64 0,.int .i64 0] 73):=⟨_,rfl⟩
 obtain ⟨g2,hg2⟩:∃ g2,w.heap.size=g2:=⟨_,rfl⟩
 have X2:Blk W1 g2 73 #[.int .i64 0,.int .i64 0,.int .i64 0,.int .i64 0]:=by rw [hW];exact Blk.made hg2.symm _ _
 have hA:Below w.heap.size w W1:=by rw [hW];exact bA (bR w) _
 have HB1:=Lib.hid hA
 rw [← hW]
 replace c0:=keepc hA c0
 replace c1:=keepc hA c1
 have hlb1:b<W1.heap.size:=by have:=hA.size;omega
 have hbg:some b≠some g2:=fun e=>by have:=Option.some.inj e;omega
 have HX2:=Lib.hid X2
 have hgw:w.heap.size≤g2:=by omega
 clear hW hA
 try rw [hg2]
 obtain ⟨X2l,X2a,X2b,X2c,X2d,X2fa,X2fb,X2fc,X2fd⟩:=X2.facts4
 go_upto_region 3 with fail
 refine rg_start (SinceX W1 (some g2)) (.run 17 0 0 (.call 17 262143 (.done))) (by kernel_rfl) (gD (gR _ _)) (by kernel_rfl) (by kernel_rfl) (Nat.le_of_ble_eq_true (by kernel_rfl)) ?_
 intro opsR QR Hops HQrg hS
 iterate 17
  apply rg_pX;exact Hops;exact rfl;exact hS;exact rfl
  · intro _ hqc;go_simp;try rfl
  try simp only [pu]
 refine rg_call (i:=17) (get_of Hops rfl) (fun K hK=>?_)
 have HSrg:=Lib.hid hS;clear hS
 refine rg_run (wanted_plain rfl) ?_
 go_simp
 refine hK.out _ _ (by first | exact gS HSrg.out _ _ | (unfold SinceX;have hS9:World.grownBy _ _ _:=HSrg.out;repeat (first | with_reducible assumption | with_reducible exact World.grownBy.refl _ _ | with_reducible refine gS ?_ _ _ | with_reducible refine gD ?_ | with_reducible refine gA ?_ _))) (fun hS=>?_)
 clear hK K HSrg
 try simp only [pu]
 refine rg_done ?_
 refine HQrg.down _ _ ?_
 have hB:W1.grownBy _ (some g2):=hS
 clear hS HQrg Hops
 skip
 have HBd:=Lib.hid (show Below g2 W1 W1.drew from Below.drew (Below.refl g2 W1))
 clear hB c0 c1 X2l X2a X2b X2c X2d X2fa X2fb X2fc X2fd
 go_wp2_with fail
 go_loopw [28] (fun u wr=>∃ (k:Nat) (x:Bx),k≤l.length∧u=.int .i64 k∧x=(l.take k).foldl boxGrow ⟨p0.x,p0.y,p0.x,p0.y⟩∧Blk wr g2 73 #[.int .i64 x.x0,.int .i64 x.y0,.int .i64 x.x1,.int .i64 x.y1]∧Below g2 W1 wr) (fun u _=>l.length-(intOf u).toNat)
 case atStart => exact ⟨0,⟨p0.x,p0.y,p0.x,p0.y⟩,Nat.zero_le _,rfl,rfl,Blk.put4 HX2.out.drew,(((HBd.out.setCell (p:=⟨g2,0,none⟩) (Nat.le_refl _) _).setCell (p:=⟨g2,1,none⟩) (Nat.le_refl _) _).setCell (p:=⟨g2,2,none⟩) (Nat.le_refl _) _).setCell (p:=⟨g2,3,none⟩) (Nat.le_refl _) _⟩
 case round =>
  obtain ⟨k,x,hk,rfl,hx,X3,hb⟩:=hrel
  obtain ⟨wo,rfl⟩:∃ wo:World,wo=wr:=⟨_,rfl⟩
  have Hb:=Lib.hid hb;have HX:=Lib.hid hx;have HX3r:=Lib.hid X3
  have l3:=X3.lt
  have HBw:=Lib.hid (show Below w.heap.size w wo from HB1.out.trans (hb.mono hgw))
  clear hb hx
  by_cases hlt:k<l.length
  ·
   obtain ⟨b',o',hA',hlb',c0,c1⟩:=(HR.out.mono HBw.out).pt hlt
   injection hA' with hA'
   injection hA' with y1 y2 _
   subst y1 y2
   have hst:(l.take (k+1)).foldl boxGrow ⟨p0.x,p0.y,p0.x,p0.y⟩=boxGrow x l[k]:=by
    rw [List.take_succ_eq_append_getElem hlt,List.foldl_append,← HX.out];rfl
   unfold boxGrow at hst
   have HSt:=Lib.hid hst
   generalize l[k]=p at *
   clear hst
   go_upto_region 7 with fail
   obtain ⟨W2,hW2⟩:∃ W:World,W=wo.alloc (.cells #[.int .i64 p.x,.int .i64 p.y] 39):=⟨_,rfl⟩
   have hA1:Below wo.heap.size wo W2:=by rw [hW2];exact bA (bR wo) _
   obtain ⟨g5,hg5⟩:∃ g5,wo.heap.size=g5:=⟨_,rfl⟩
   have X5:Blk W2 g5 39 #[.int .i64 p.x,.int .i64 p.y]:=by rw [hW2];exact Blk.made hg5.symm _ _
   have HB2:=Lib.hid (show Below g2 W1 W2 by rw [hW2];exact Hb.out.alloc (by have:=Hb.out.size;have:=HX2.out.lt;omega) _)
   have n5:¬ g5=g2:=by omega
   have HX4:=Lib.hid (HX3r.out.keep hA1)
   have HX5:=Lib.hid X5
   rw [← hW2]
   try rw [hg5]
   clear hW2 hA1 hg5 X3 c0 c1 HX3r Hb HBw
   have X4:=HX4.out
   obtain ⟨X4l,X4a,X4b,X4c,X4d,X4fa,X4fb,X4fc,X4fd⟩:=X4.facts4
   obtain ⟨X5l,X5a,X5b,-,-⟩:=X5.facts2
   go_cut [33] (fun u wx=>Blk wx g2 73 #[.int .i64 (min x.x0 p.x),.int .i64 x.y0,.int .i64 (max x.x1 p.x),.int .i64 x.y1]∧Blk wx g5 39 #[.int .i64 p.x,.int .i64 p.y]∧Below g2 W1 wx)
   case first =>
    obtain ⟨m1,hm1⟩:∃ m1:Int,m1=if p.x<x.x0 then p.x else x.x0:=⟨_,rfl⟩
    obtain ⟨m2,hm2⟩:∃ m2:Int,m2=if x.x1<p.x then p.x else x.x1:=⟨_,rfl⟩
    have hfin:Blk (((W2.setCell ⟨g2,0,none⟩ (.int .i64 m1)).setCell ⟨g2,2,none⟩ (.int .i64 m2))).drew g2 73 #[.int .i64 (min x.x0 p.x),.int .i64 x.y0,.int .i64 (max x.x1 p.x),.int .i64 x.y1]∧Blk (((W2.setCell ⟨g2,0,none⟩ (.int .i64 m1)).setCell ⟨g2,2,none⟩ (.int .i64 m2))).drew g5 39 #[.int .i64 p.x,.int .i64 p.y]∧Below g2 W1 (((W2.setCell ⟨g2,0,none⟩ (.int .i64 m1)).setCell ⟨g2,2,none⟩ (.int .i64 m2))).drew:=by
     refine ⟨?_,((HX5.out.far (p:=⟨g2,0,none⟩) n5 _).far (p:=⟨g2,2,none⟩) n5 _).drew,((HB2.out.setCell (p:=⟨g2,0,none⟩) (Nat.le_refl _) _).setCell (p:=⟨g2,2,none⟩) (Nat.le_refl _) _).drew⟩
     have h:=Blk.set_ (Blk.set_ HX4.out 0 (.int .i64 m1)) 2 (.int .i64 m2)
     have e1:min x.x0 p.x=m1:=by rw [hm1];split<;>omega
     have e2:max x.x1 p.x=m2:=by rw [hm2];split<;>omega
     rw [e1,e2]
     refine Blk.drew ?_
     simpa using h
    have Hfin:=Lib.hid hfin
    have Hm1:=Lib.hid hm1;have Hm2:=Lib.hid hm2;have He1:=Lib.hid (show min x.x0 p.x=m1 by rw [hm1];split<;>omega);have He2:=Lib.hid (show max x.x1 p.x=m2 by rw [hm2];split<;>omega)
    clear hfin hm1 hm2
    go_upto_region 7 with fail
    refine rg_start (SinceX W2 (some g2)) (.take 0 1 (.take 2 5 (.take 3 13 (.take 5 45 (.take 7 173 (.take 8 429 (.two 1 431 (.take 4 447 (.call 6 511 (.take 9 1023 (.take 10 2047 (.call 11 4095 (.take 12 8191 (.call 13 16383 (.done)))))))) 6 493 (.take 9 1005 (.call 1 1007 (.take 4 1023 (.take 10 2047 (.call 11 4095 (.take 12 8191 (.call 13 16383 (.done))))))))))))))) (by kernel_rfl) (gD (gR _ _)) (by kernel_rfl) (by kernel_rfl) (Nat.le_of_ble_eq_true (by kernel_rfl)) ?_
    intro opsR QR Hops HQrg hS
    iterate 6
     apply rg_pX;exact Hops;exact rfl;exact hS;exact rfl
     · intro _ hqc;go_simp;try rfl
     try simp only [pu]
    refine rg_two (i:=1) (j:=6) (get_of Hops rfl) (get_of Hops rfl) (fun K hK=>?_) (fun K hK=>?_)
    ·
     have HSrg:=Lib.hid hS;clear hS
     refine rg_run (wanted_plain rfl) ?_
     go_simp
     refine hK.out _ _ HSrg.out (fun hS=>?_)
     clear hK K HSrg
     try simp only [pu]
     apply rg_pX;exact Hops;exact rfl;exact hS;exact rfl
     · intro _ hqc;go_simp;try rfl
     try simp only [pu]
     refine rg_call (i:=6) (get_of Hops rfl) (fun K hK=>?_)
     have HSrg:=Lib.hid hS;clear hS
     refine rg_run (wanted_plain rfl) ?_
     go_simp
     refine hK.out _ _ HSrg.out (fun hS=>?_)
     clear hK K HSrg
     try simp only [pu]
     iterate 2
      apply rg_pX;exact Hops;exact rfl;exact hS;exact rfl
      · intro _ hqc;go_simp;try rfl
      try simp only [pu]
     refine rg_call (i:=11) (get_of Hops rfl) (fun K hK=>?_)
     have HSrg:=Lib.hid hS;clear hS
     refine rg_run (wanted_plain rfl) ?_
     go_simp
     refine hK.out _ _ (by first | exact gS HSrg.out _ _ | (unfold SinceX;have hS9:World.grownBy _ _ _:=HSrg.out;repeat (first | with_reducible assumption | with_reducible exact World.grownBy.refl _ _ | with_reducible refine gS ?_ _ _ | with_reducible refine gD ?_ | with_reducible refine gA ?_ _))) (fun hS=>?_)
     clear hK K HSrg
     try simp only [pu]
     apply rg_pX;exact Hops;exact rfl;exact hS;exact rfl
     · intro _ hqc;go_simp;try rfl
     try simp only [pu]
     refine rg_call (i:=13) (get_of Hops rfl) (fun K hK=>?_)
     have HSrg:=Lib.hid hS;clear hS
     refine rg_run (wanted_plain rfl) ?_
     go_simp
     refine hK.out _ _ (by first | exact gS HSrg.out _ _ | (unfold SinceX;have hS9:World.grownBy _ _ _:=HSrg.out;repeat (first | with_reducible assumption | with_reducible exact World.grownBy.refl _ _ | with_reducible refine gS ?_ _ _ | with_reducible refine gD ?_ | with_reducible refine gA ?_ _))) (fun hS=>?_)
     clear hK K HSrg
     try simp only [pu]
     refine rg_done ?_
     refine HQrg.down _ _ ?_
     have hB:W2.grownBy _ (some g2):=hS
     clear hS HQrg Hops
     first | rw [← Hm1.out,← Hm2.out] | rw [He1.out,He2.out]
     go_wp2_with fail
     go_meet
     case rel => exact Hfin.out
    ·
     have HSrg:=Lib.hid hS;clear hS
     refine rg_run (wanted_plain rfl) ?_
     go_simp
     refine hK.out _ _ HSrg.out (fun hS=>?_)
     clear hK K HSrg
     try simp only [pu]
     apply rg_pX;exact Hops;exact rfl;exact hS;exact rfl
     · intro _ hqc;go_simp;try rfl
     try simp only [pu]
     refine rg_call (i:=1) (get_of Hops rfl) (fun K hK=>?_)
     have HSrg:=Lib.hid hS;clear hS
     refine rg_run (wanted_plain rfl) ?_
     go_simp
     refine hK.out _ _ HSrg.out (fun hS=>?_)
     clear hK K HSrg
     try simp only [pu]
     iterate 2
      apply rg_pX;exact Hops;exact rfl;exact hS;exact rfl
      · intro _ hqc;go_simp;try rfl
      try simp only [pu]
     refine rg_call (i:=11) (get_of Hops rfl) (fun K hK=>?_)
     have HSrg:=Lib.hid hS;clear hS
     refine rg_run (wanted_plain rfl) ?_
     go_simp
     refine hK.out _ _ (by first | exact gS HSrg.out _ _ | (unfold SinceX;have hS9:World.grownBy _ _ _:=HSrg.out;repeat (first | with_reducible assumption | with_reducible exact World.grownBy.refl _ _ | with_reducible refine gS ?_ _ _ | with_reducible refine gD ?_ | with_reducible refine gA ?_ _))) (fun hS=>?_)
     clear hK K HSrg
     try simp only [pu]
     apply rg_pX;exact Hops;exact rfl;exact hS;exact rfl
     · intro _ hqc;go_simp;try rfl
     try simp only [pu]
     refine rg_call (i:=13) (get_of Hops rfl) (fun K hK=>?_)
     have HSrg:=Lib.hid hS;clear hS
     refine rg_run (wanted_plain rfl) ?_
     go_simp
     refine hK.out _ _ (by first | exact gS HSrg.out _ _ | (unfold SinceX;have hS9:World.grownBy _ _ _:=HSrg.out;repeat (first | with_reducible assumption | with_reducible exact World.grownBy.refl _ _ | with_reducible refine gS ?_ _ _ | with_reducible refine gD ?_ | with_reducible refine gA ?_ _))) (fun hS=>?_)
     clear hK K HSrg
     try simp only [pu]
     refine rg_done ?_
     refine HQrg.down _ _ ?_
     have hB:W2.grownBy _ (some g2):=hS
     clear hS HQrg Hops
     first | rw [← Hm1.out,← Hm2.out] | rw [He1.out,He2.out]
     go_wp2_with fail
     go_meet
     case rel => exact Hfin.out
   case rest =>
   obtain ⟨hx4,hx5,hb4⟩:=hcut
   obtain ⟨wv,rfl⟩:∃ wv:World,wv=wc:=⟨_,rfl⟩
   have HX6:=Lib.hid hx4;have HX7:=Lib.hid hx5;have HB4:=Lib.hid hb4
   clear hx4 hx5 hb4 X4 X4l X4a X4b X4c X4d X4fa X4fb X4fc X4fd X5 X5l X5a X5b HX4 HX5 HB2
   have X6:=HX6.out;have X7:=HX7.out
   obtain ⟨X6l,X6a,X6b,X6c,X6d,X6fa,X6fb,X6fc,X6fd⟩:=X6.facts4
   obtain ⟨X7l,X7a,X7b,-,-⟩:=X7.facts2
   obtain ⟨m1,hm1⟩:∃ m1:Int,m1=if p.y<x.y0 then p.y else x.y0:=⟨_,rfl⟩
   obtain ⟨m2,hm2⟩:∃ m2:Int,m2=if x.y1<p.y then p.y else x.y1:=⟨_,rfl⟩
   have hfin:Blk (((wv.setCell ⟨g2,1,none⟩ (.int .i64 m1)).setCell ⟨g2,3,none⟩ (.int .i64 m2))).drew g2 73 #[.int .i64 (min x.x0 p.x),.int .i64 (min x.y0 p.y),.int .i64 (max x.x1 p.x),.int .i64 (max x.y1 p.y)]∧Below g2 W1 (((wv.setCell ⟨g2,1,none⟩ (.int .i64 m1)).setCell ⟨g2,3,none⟩ (.int .i64 m2))).drew:=by
    refine ⟨?_,((HB4.out.setCell (p:=⟨g2,1,none⟩) (Nat.le_refl _) _).setCell (p:=⟨g2,3,none⟩) (Nat.le_refl _) _).drew⟩
    have h:=Blk.set_ (Blk.set_ HX6.out 1 (.int .i64 m1)) 3 (.int .i64 m2)
    have e1:min x.y0 p.y=m1:=by rw [hm1];split<;>omega
    have e2:max x.y1 p.y=m2:=by rw [hm2];split<;>omega
    rw [e1,e2]
    refine Blk.drew ?_
    simpa using h
   have Hfin:=Lib.hid hfin
   have Hm1:=Lib.hid hm1;have Hm2:=Lib.hid hm2;have He1:=Lib.hid (show min x.y0 p.y=m1 by rw [hm1];split<;>omega);have He2:=Lib.hid (show max x.y1 p.y=m2 by rw [hm2];split<;>omega)
   clear hfin hm1 hm2
   go_upto_region 8 with fail
   refine rg_start (SinceX wv (some g2)) (.take 0 1 (.take 2 5 (.take 3 13 (.take 5 45 (.take 7 173 (.take 8 429 (.two 1 431 (.take 4 447 (.call 6 511 (.take 9 1023 (.take 10 2047 (.call 11 4095 (.take 12 8191 (.call 13 16383 (.done)))))))) 6 493 (.take 9 1005 (.call 1 1007 (.take 4 1023 (.take 10 2047 (.call 11 4095 (.take 12 8191 (.call 13 16383 (.done))))))))))))))) (by kernel_rfl) (gD (gR _ _)) (by kernel_rfl) (by kernel_rfl) (Nat.le_of_ble_eq_true (by kernel_rfl)) ?_
   intro opsR QR Hops HQrg hS
   iterate 6
    apply rg_pX;exact Hops;exact rfl;exact hS;exact rfl
    · intro _ hqc;go_simp;try rfl
    try simp only [pu]
   refine rg_two (i:=1) (j:=6) (get_of Hops rfl) (get_of Hops rfl) (fun K hK=>?_) (fun K hK=>?_)
   ·
    have HSrg:=Lib.hid hS;clear hS
    refine rg_run (wanted_plain rfl) ?_
    go_simp
    refine hK.out _ _ HSrg.out (fun hS=>?_)
    clear hK K HSrg
    try simp only [pu]
    apply rg_pX;exact Hops;exact rfl;exact hS;exact rfl
    · intro _ hqc;go_simp;try rfl
    try simp only [pu]
    refine rg_call (i:=6) (get_of Hops rfl) (fun K hK=>?_)
    have HSrg:=Lib.hid hS;clear hS
    refine rg_run (wanted_plain rfl) ?_
    go_simp
    refine hK.out _ _ HSrg.out (fun hS=>?_)
    clear hK K HSrg
    try simp only [pu]
    iterate 2
     apply rg_pX;exact Hops;exact rfl;exact hS;exact rfl
     · intro _ hqc;go_simp;try rfl
     try simp only [pu]
    refine rg_call (i:=11) (get_of Hops rfl) (fun K hK=>?_)
    have HSrg:=Lib.hid hS;clear hS
    refine rg_run (wanted_plain rfl) ?_
    go_simp
    refine hK.out _ _ (by first | exact gS HSrg.out _ _ | (unfold SinceX;have hS9:World.grownBy _ _ _:=HSrg.out;repeat (first | with_reducible assumption | with_reducible exact World.grownBy.refl _ _ | with_reducible refine gS ?_ _ _ | with_reducible refine gD ?_ | with_reducible refine gA ?_ _))) (fun hS=>?_)
    clear hK K HSrg
    try simp only [pu]
    apply rg_pX;exact Hops;exact rfl;exact hS;exact rfl
    · intro _ hqc;go_simp;try rfl
    try simp only [pu]
    refine rg_call (i:=13) (get_of Hops rfl) (fun K hK=>?_)
    have HSrg:=Lib.hid hS;clear hS
    refine rg_run (wanted_plain rfl) ?_
    go_simp
    refine hK.out _ _ (by first | exact gS HSrg.out _ _ | (unfold SinceX;have hS9:World.grownBy _ _ _:=HSrg.out;repeat (first | with_reducible assumption | with_reducible exact World.grownBy.refl _ _ | with_reducible refine gS ?_ _ _ | with_reducible refine gD ?_ | with_reducible refine gA ?_ _))) (fun hS=>?_)
    clear hK K HSrg
    try simp only [pu]
    refine rg_done ?_
    refine HQrg.down _ _ ?_
    have hB:wv.grownBy _ (some g2):=hS
    clear hS HQrg Hops
    first | rw [← Hm1.out,← Hm2.out] | rw [He1.out,He2.out]
    go_wp2_with fail
    go_roundw
    case rel => exact ⟨k+1,_,by omega,by go_num,HSt.out.symm,Hfin.out.1,Hfin.out.2⟩
    case measure => simp [intOf];omega
   ·
    have HSrg:=Lib.hid hS;clear hS
    refine rg_run (wanted_plain rfl) ?_
    go_simp
    refine hK.out _ _ HSrg.out (fun hS=>?_)
    clear hK K HSrg
    try simp only [pu]
    apply rg_pX;exact Hops;exact rfl;exact hS;exact rfl
    · intro _ hqc;go_simp;try rfl
    try simp only [pu]
    refine rg_call (i:=1) (get_of Hops rfl) (fun K hK=>?_)
    have HSrg:=Lib.hid hS;clear hS
    refine rg_run (wanted_plain rfl) ?_
    go_simp
    refine hK.out _ _ HSrg.out (fun hS=>?_)
    clear hK K HSrg
    try simp only [pu]
    iterate 2
     apply rg_pX;exact Hops;exact rfl;exact hS;exact rfl
     · intro _ hqc;go_simp;try rfl
     try simp only [pu]
    refine rg_call (i:=11) (get_of Hops rfl) (fun K hK=>?_)
    have HSrg:=Lib.hid hS;clear hS
    refine rg_run (wanted_plain rfl) ?_
    go_simp
    refine hK.out _ _ (by first | exact gS HSrg.out _ _ | (unfold SinceX;have hS9:World.grownBy _ _ _:=HSrg.out;repeat (first | with_reducible assumption | with_reducible exact World.grownBy.refl _ _ | with_reducible refine gS ?_ _ _ | with_reducible refine gD ?_ | with_reducible refine gA ?_ _))) (fun hS=>?_)
    clear hK K HSrg
    try simp only [pu]
    apply rg_pX;exact Hops;exact rfl;exact hS;exact rfl
    · intro _ hqc;go_simp;try rfl
    try simp only [pu]
    refine rg_call (i:=13) (get_of Hops rfl) (fun K hK=>?_)
    have HSrg:=Lib.hid hS;clear hS
    refine rg_run (wanted_plain rfl) ?_
    go_simp
    refine hK.out _ _ (by first | exact gS HSrg.out _ _ | (unfold SinceX;have hS9:World.grownBy _ _ _:=HSrg.out;repeat (first | with_reducible assumption | with_reducible exact World.grownBy.refl _ _ | with_reducible refine gS ?_ _ _ | with_reducible refine gD ?_ | with_reducible refine gA ?_ _))) (fun hS=>?_)
    clear hK K HSrg
    try simp only [pu]
    refine rg_done ?_
    refine HQrg.down _ _ ?_
    have hB:wv.grownBy _ (some g2):=hS
    clear hS HQrg Hops
    first | rw [← Hm1.out,← Hm2.out] | rw [He1.out,He2.out]
    go_wp2_with fail
    go_roundw
    case rel => exact ⟨k+1,_,by omega,by go_num,HSt.out.symm,Hfin.out.1,Hfin.out.2⟩
    case measure => simp [intOf];omega
  ·
   have hxr:x=R:=by rw [HX.out,List.take_of_length_le (by omega),HRr.out]
   have HXr:=Lib.hid hxr
   clear hxr
   obtain ⟨X3l,X3a,X3b,X3c,X3d,X3fa,X3fb,X3fc,X3fd⟩:=X3.facts4
   go_wp2_with fail
   refine res_cell (g:=g2) (cs:=#[.int .i64 x.x0,.int .i64 x.y0,.int .i64 x.x1,.int .i64 x.y1]) rfl struct_bx rfl rfl (Blk.put4 HX3r.out) ⟨by rw [HXr.out];rfl,?_⟩
   exact (((HBw.out.setCell (p:=⟨g2,0,none⟩) hgw _).setCell (p:=⟨g2,1,none⟩) hgw _).setCell (p:=⟨g2,2,none⟩) hgw _).setCell (p:=⟨g2,3,none⟩) hgw _
end Go.Proofs.YtialfdomhoojiaaGreat
namespace Go.Proofs.YtialfdomhoojiaaGreat
open Go.RowKit

structure PtBox (w:World) (B g:Nat) (l:List Pt) (v:Value):Prop where
 box:Blk w g 46 #[v]
 own:Own w B 39 2 ptC v l
theorem PtBox.keep {w w':World} {B g:Nat} {l:List Pt} {v:Value} (h:PtBox w B g l v) (hb:Below w.heap.size w w'):PtBox w' B g l v:=⟨h.box.keep hb,h.own.keep hb⟩
set_option maxRecDepth 100000 in
set_option maxHeartbeats 1000000 in
theorem midStep_spec (a b:Pt) (B g:Nat) (l:List Pt) (v:Value) (w:World) (h:PtBox w B g l v) (hBw:B≤w.heap.size) (hl:l.length≤1000000) :
  Calls Tryz.prog 80 #[ptV a,ptV b,.pointer (some ⟨g,0,none⟩)] w fun e w'=>e=.returned (.tuple #[])∧(∃ v',PtBox w' B g (l++[a,b]) v')∧Kept2 B g g w w':=by
 obtain ⟨X4,own⟩:=h
 obtain ⟨A,c,rfl,-⟩:=Own.sl own
 have n4:=Own.ne_blk own X4 (by decide)
 have hg:=X4.lt
 unfold ptV
 go_enter Tryz.func80,Tryz.ntmps80
 go_upto_region 1 with fail
 obtain ⟨W1,hW⟩:∃ W:World,W=(w.alloc (.cells #[.int .i64 a.x,.int .i64 a.y] 39)).alloc (.cells #[.int .i64 b.x,.int .i64 b.y] 39):=⟨_,rfl⟩
 have X5:Blk W1 w.heap.size 39 #[.int .i64 a.x,.int .i64 a.y]:=by rw [hW];exact (Blk.made rfl _ _).alloc _
 have X6:Blk W1 (w.heap.size+1) 39 #[.int .i64 b.x,.int .i64 b.y]:=by rw [hW];exact Blk.made (by simp) _ _
 have hA:Below w.heap.size w W1:=by rw [hW];exact bA (bA (bR w) _) _
 replace X4:=X4.keep hA
 have HX4:=Lib.hid X4;have HO:=Lib.hid (own.keep hA);have HA:=Lib.hid hA
 have hB1:B≤W1.heap.size:=Nat.le_trans hBw hA.size
 have hsh:(l++[a,b]).length=l.length+2:=by simp
 have HSh:=Lib.hid hsh
 have HN:=Lib.hid n4
 rw [← hW]
 clear hW hA own hsh n4
 obtain ⟨X4l,X4a,X4fa⟩:=X4.facts1
 obtain ⟨X5l,X5a,X5b,-,-⟩:=X5.facts2
 obtain ⟨X6l,X6a,X6b,-,-⟩:=X6.facts2
 go_wp2_with
  (at_builtin
   refine wpList_appl _ rfl (.tmp 5) (.tmp 8) _ rfl (base:=B) elem_pt ptC_len ptC_one rfl (Own.alloc HO.out _) rfl (l2:=[a,b]) (Sl.lit (n:=2) (Blk.made rfl _ _) rfl (le_maxLen (by omega))) (by simp only [List.length_cons,List.length_nil];omega) (by simp only [List.length_cons,List.length_nil];omega) (by simp;omega) ?_
   intro v3 w3 ho3 hg3 hat3
   obtain ⟨A3,c3,hv3,-⟩:=ho3.sl
   rw [HSh.out] at hv3
   subst hv3
   have X43:=Blk.grown (HX4.out.alloc _) hg3 (fun e=>HN.out e.symm)
   have HF:=Lib.hid (show PtBox (w3.setCell ⟨g,0,none⟩ (.slice A3 (l.length+2) c3)) B g (l++[a,b]) (.slice A3 (l.length+2) c3) from ⟨X43.set_ 0 _,ho3.far (p:=⟨g,0,none⟩) (Own.ne_blk ho3 X43 (by decide)) _⟩)
   have HK:=Lib.hid (show Kept2 B g g W1 (w3.setCell ⟨g,0,none⟩ (.slice A3 (l.length+2) c3)) from ⟨fun w0 k1 k2 k3 _=>bS (p:=⟨g,0,none⟩) (bG (bA k1 _) hg3 (fun k hk=>Nat.le_trans k2 (HO.out.lt k hk).1)) k3 _,(by have:=hg3.size;simp at this;simp;omega),fun g1 k1 k2 _=>by
    rw [Below.heap_setCell w3 ⟨g,0,none⟩ _ g1 k2,hg3.block g1 (by simp;omega) (fun e=>by have:=(HO.out.lt g1 e.symm).1;omega)]
    exact Below.heap_alloc W1 _ g1 (by omega)⟩)
   clear ho3 hg3 hat3 X4 X4l X4a X4fa
   obtain ⟨X43l,X43a,X43fa⟩:=X43.facts1
   )
 exact bodyPost_end (v:=.tuple #[]) (results_none rfl _ _ _) rfl ⟨rfl,⟨_,HF.out⟩,(Kept2.of hBw HA.out).trans HK.out⟩
structure MidI (w:World) (B g:Nat) (S:List (Pt×Pt)) (w2 W:World):Prop where
 st:∃ v,PtBox W B g (endsL S) v
 kept:Kept2 B g g w2 W
 below:Below w.heap.size w W
theorem endsL_snoc (S:List (Pt×Pt)) (q:Pt×Pt):endsL (S++[q])=endsL S++[q.1,q.2]:=by unfold endsL;rw [List.flatMap_append];rfl
theorem endsL_len (S:List (Pt×Pt)):(endsL S).length=2*S.length:=by
 unfold endsL
 induction S with
 | nil=>rfl
 | cons q S ih=>rw [List.flatMap_cons,List.length_append,ih];simp;omega
theorem Mid_seg (w:World) (gm:Nat) (p:Pl) (f:Int→SV) (hpm:PathsM w gm p f) (hv:Valid p) (vc:Value) (X:List Int) (hX:Ints w vc X) (hd:∀ d∈X,d∈dartsD p) (B g:Nat)
  (hl:(segX p X).length≤40000) (k1:w.heap.size≤B) (k2:w.heap.size≤g) (W:World) (hB:B≤W.heap.size) (v0:Value) (h0:PtBox W B g [] v0) (hw:Below w.heap.size w W) :
  Calls Tryz.prog 79 #[.map (some gm),vc,.func (.func 80) #[] #[.pointer (some ⟨g,0,none⟩)]] W fun e W'=>e=.returned (.tuple #[])∧MidI w B g (segX p X) W W':=by
 refine (SegsM_spec w gm p f hpm hv vc X hX hd g (fun s W'=>MidI w B g s W W') (fun s q=>s++[q]) (fun s W h=>h.below) (fun s W' h=>⟨by obtain ⟨⟨v,h1⟩,-,-⟩:=h;exact ⟨v,h1.keep (bD (bR W'))⟩,h.kept.trans ⟨fun w0 k _ _ _=>bD k,Nat.le_refl _,fun _ _ _ _=>rfl⟩,bD h.below⟩) [] (fun S0 W' q r hs h=>?_) W ⟨⟨v0,h0⟩,Kept2.refl _ _ _ _,hw⟩).mono ?_
 ·
  rw [foldl_snoc,List.nil_append] at h ⊢
  obtain ⟨⟨v,hst⟩,hk,hb⟩:=h
  have hlen:S0.length≤40000:=by
   have:=congrArg List.length hs
   simp only [List.length_append,List.length_cons] at this
   omega
  refine (midStep_spec q.1 q.2 B g _ v W' hst (Nat.le_trans hB hk.size) (by rw [endsL_len];omega)).mono ?_
  rintro e W2 ⟨rfl,⟨v',hst'⟩,hk2⟩
  exact ⟨rfl,⟨⟨v',by rw [endsL_snoc];exact hst'⟩,hk.trans hk2,hk2.below w hb k1 k2 k2⟩,hk2.base hb k1 k2 k2⟩
 ·
  rintro e W' ⟨rfl,h,-⟩
  rw [foldl_snoc,List.nil_append] at h
  exact ⟨rfl,h⟩
theorem setCell_same {w:World} {g:Nat} {t:TypeId} {cs:Array Value} (h:Blk w g t cs) {i:Nat} {v:Value} (hv:cs[i]? = some v):w.setCell ⟨g,i,none⟩ v=w:=by
 unfold Blk at h
 have e:w.heap.modify g (fun
   | .cells c elem frozen=>.cells (if (none:Option Nat).isSome then c else c.setIfInBounds i v) elem frozen
   | o=>o)=w.heap:=by
  apply Array.ext_getElem?
  intro k
  rw [Array.getElem?_modify]
  split
  ·
   rename_i e
   subst e
   rw [h]
   simp only [Option.map_some,Option.some.injEq,Option.isSome_none,Bool.false_eq_true,if_false]
   congr 1
   apply Array.ext_getElem?
   intro j
   rw [Array.getElem?_setIfInBounds]
   split
   ·
    rename_i e;subst e
    split
    · exact hv.symm
    · rename_i hn;rw [Array.getElem?_eq_none (by omega)] at hv;cases hv
   · rfl
  · rfl
 show ({w with heap:=w.heap.modify g _}:World)=w
 cases w
 congr 1
theorem face_uq {p:Pl} (hf:FaceOK p) {X Y:List Int} (hX:X∈outX p) (hY:Y∈outX p) (e:faceX p (some X)=faceX p (some Y)):X=Y:=by
 have hd:=hf.differ
 unfold List.Nodup at hd
 rw [List.pairwise_map,List.pairwise_iff_getElem] at hd
 obtain ⟨i,hi,e1⟩:=List.mem_iff_getElem.1 hX
 obtain ⟨j,hj,e2⟩:=List.mem_iff_getElem.1 hY
 rcases Nat.lt_trichotomy i j with l | l | l
 · exact absurd (by rw [e1,e2];exact e) (hd i j hi hj l)
 · subst l;rw [← e1,← e2]
 · exact absurd (by rw [e1,e2];exact e.symm) (hd j i hj hi l)
theorem idx_reg {p:Pl} (hf:FaceOK p) (f:Int):(∃ i:Nat,∃ hi:i<(outX p).length,idxZ (facF p (outX p) ((outX p).length+1)) f=(i:Int)+1∧regOf p f=some (outX p)[i])∨(idxZ (facF p (outX p) ((outX p).length+1)) f<1∧regOf p f=none):=by
 have hF:∀ k (hk:k<(outX p).length+1),(facF p (outX p) ((outX p).length+1))[k]'(by rw [facF_len];exact hk)=fcI p (outX p) k:=fun k hk=>by
  unfold facF
  rw [List.getElem_map,List.getElem_range]
 have hfc:∀ i (hi:i<(outX p).length),fcI p (outX p) (i+1)=faceX p (some (outX p)[i]):=fun i hi=>by rw [fcI_some (by omega) (by omega)];rfl
 unfold idxZ
 cases c:(facF p (outX p) ((outX p).length+1)).findIdx? (fun y=>y == f) with
 | none =>
  refine .inr ⟨by show (-1:Int)<1;omega,?_⟩
  cases c2:regOf p f with
  | none=>rfl
  | some X =>
   obtain ⟨hX,e⟩:=regOf_some c2
   obtain ⟨i,hi,rfl⟩:=List.mem_iff_getElem.1 hX
   rw [List.findIdx?_eq_none_iff] at c
   have:=c _ (List.getElem_mem (show i+1<(facF p (outX p) ((outX p).length+1)).length by rw [facF_len];omega))
   rw [hF (i+1) (by omega),hfc i hi,e] at this
   simp at this
 | some k =>
  obtain ⟨hk,he,-⟩:=List.findIdx?_eq_some_iff_getElem.1 c
  rw [facF_len] at hk
  rw [hF k hk] at he
  have he:=eq_of_beq he
  cases k with
  | zero =>
   refine .inr ⟨by show ((0:Nat):Int)<1;omega,?_⟩
   cases c2:regOf p f with
   | none=>rfl
   | some X =>
    obtain ⟨hX,e⟩:=regOf_some c2
    exact absurd (show sideD p (X.headD 0)=0 from e.trans he.symm) (hf.some X hX)
  | succ i =>
   refine .inl ⟨i,by omega,by show ((i+1:Nat):Int)=_;omega,?_⟩
   rw [hfc i (by omega)] at he
   cases c2:regOf p f with
   | none=>exact absurd (beq_iff_eq.2 he) (List.find?_eq_none.1 c2 _ (List.getElem_mem (by omega)))
   | some X =>
    obtain ⟨hX,e⟩:=regOf_some c2
    rw [face_uq hf hX (List.getElem_mem _) (e.trans he.symm)]
end Go.Proofs.YtialfdomhoojiaaGreat
