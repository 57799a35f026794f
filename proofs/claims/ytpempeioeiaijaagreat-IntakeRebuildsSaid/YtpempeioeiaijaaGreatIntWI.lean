import Derived.Test.YtpempeioeiaijaaGreatJ28
set_option linter.unusedSimpArgs false
set_option linter.unusedVariables false
namespace Go.Proofs.YtpempeioeiaijaaGreat
open Go.RowKit Go.Sort

theorem bldZ_big {L:List (List Pt)} (hg:GoodL L) (h:bigI L=true):bldZ L=3:=by
 unfold bldZ
 rw [if_neg (by rw [chkL_good.2 hg];simp),if_pos h]
theorem bldZ_cross {L:List (List Pt)} (hg:GoodL L) (h:bigI L=false) (hc:checkS (plI L)≠0):bldZ L=11:=by
 unfold bldZ
 rw [if_neg (by rw [chkL_good.2 hg];simp),if_neg (by rw [h];simp),if_pos hc]
theorem bldZ_lab {L:List (List Pt)} (hg:GoodL L) (h:bigI L=false) (hc:checkS (plI L)=0):bldZ L=labZ (plI L):=by
 unfold bldZ
 rw [if_neg (by rw [chkL_good.2 hg];simp),if_neg (by rw [h];simp),if_neg (by rw [hc];simp)]
theorem cutF_len (M:Pt→Bool):∀ r cur:List Pt,(cutF M cur r).length≤r.length
 | [],_=>Nat.le_refl _
 | p::r,cur=>by
  unfold cutF
  split
  · have:=cutF_len M r [p];simp only [List.length_cons];omega
  · have:=cutF_len M r (cur++[p]);simp only [List.length_cons];omega
theorem cutL_len (M:Pt→Bool) (l:List Pt):(cutL M l).length≤l.length:=by
 match l with
 | []=>exact Nat.le_refl _
 | x::r=>exact Nat.le_succ_of_le (cutF_len M r [x])
theorem numP_nil:numP []=fun _=>0:=rfl
set_option maxRecDepth 100000 in
set_option maxHeartbeats 8000000 in
theorem Build19_ok (v:Value) (xs:List (SV×List Pt)) (w:World) (h:Lns19 w v xs) (hg:GoodL (xs.map (·.2))) :
  Calls Tryz.prog 18 #[v] w (RetBld w (xs.map (·.2))):=by
 have HC:=Lib.hid (fun W (hW:Below w.heap.size w W)=>Points19_ok v xs W (h.mono hW) hg)
 have HD:=Lib.hid (fun gm n f W (hW:Below w.heap.size w W) (hm:MapPN W gm n f)=>Divide19_spec v xs gm n f W (h.mono hW) hg hm)
 obtain ⟨⟨A,c,rfl,-⟩,-⟩:=h
 generalize xs.map (·.2)=L at *
 have HG:=Lib.hid hg
 have hM:(fun p=>decide (numP (meetL L) p≠0))=meets L:=by
  funext p
  rw [Bool.eq_iff_iff,decide_eq_true_eq,numP_ne,meetL_mem]
 have HM:=Lib.hid hM
 have HPa:=Lib.hid (show srtL (L.flatMap (cutL (meets L)))=partsL L from rfl)
 have HBig:=Lib.hid (show bigI L=(decide (256<(meetL L).length) || (decide (256<(partsL L).length) || (partsL L).any (fun q=>decide (66<q.length)))) from rfl)
 have hTn:=meetL_nodup L
 have hTw:∀ p∈meetL L,wfPt p:=fun p hp=>by
  obtain ⟨l,hl,hpl⟩:=List.mem_flatten.1 (meets_mem (meetL_mem.1 hp))
  have:=hg.pts l hl p hpl
  unfold ptOk at this
  simp only [Bool.and_eq_true,decide_eq_true_eq] at this
  exact ⟨wfI_of (by omega) (by omega),wfI_of (by omega) (by omega)⟩
 have hTl:(meetL L).length≤1048576:=by
  have h1:=nodup_len hTn (m:=L.flatten) (fun x hx=>meets_mem (meetL_mem.1 hx))
  have h3:L.flatten.length≤L.length*4096:=by
   have:=flat_le L id 4096 (fun l hl=>hg.len l hl)
   simpa [List.flatMap_id] using this
  have h4:=hg.num
  omega
 have HPt:=Lib.hid (show ∀ q∈partsL L,PartI (meetL L) q from fun q hq=>partsL_part hg hq)
 have hPl:(∀ q∈partsL L,q.length≤4096)∧(partsL L).length≤1048576:=by
  refine ⟨fun q hq=>?_,?_⟩
  ·
   obtain ⟨l,hl,x,r,-,-,-,hi,-⟩:=parts_piece hg ((srtL_perm _).mem_iff.1 hq)
   exact Nat.le_trans hi.length_le (hg.len l hl)
  ·
   show (srtL (partsU L)).length≤_
   rw [(srtL_perm (partsU L)).length_eq]
   have h3:(partsU L).length≤L.length*4096:=flat_le L _ 4096 (fun l hl=>Nat.le_trans (cutL_len _ l) (hg.len l hl))
   have h4:=hg.num
   omega
 have HPlan:=Lib.hid (show plI L=planI (meetL L) (partsL L) from rfl)
 generalize meetL L=T at *
 generalize partsL L=P at *
 have HTn:=Lib.hid hTn;have HTw:=Lib.hid hTw;have HPl:=Lib.hid hPl
 have hmm:=@run_makeMap Tryz.prog
 clear hM hTn hTw hg hPl
 go_enter Tryz.func18,Tryz.ntmps18
 go_upto_region 1 with fail
 obtain ⟨W1,hW⟩:∃ W:World,W=w.alloc (.cells #[.slice none 0 0,.slice none 0 0,.slice none 0 0] 34):=⟨_,rfl⟩
 have X2:Blk W1 w.heap.size 34 #[.slice none 0 0,.slice none 0 0,.slice none 0 0]:=by rw [hW];exact Blk.made rfl _ _
 have HB1:=Lib.hid (show Below w.heap.size w W1 by rw [hW];exact bA (bR w) _)
 have HX2:=Lib.hid X2
 rw [← hW]
 clear hW X2
 go_wp2_with fail
 refine (HC.out _ HB1.out).mono ?_
 rintro e w2 ⟨At,ct,rfl,hb2,ho2⟩
 have HB2:=Lib.hid (bT HB1.out hb2)
 have HX3:=Lib.hid (HX2.out.keep hb2)
 have HO2:=Lib.hid (ho2.mono_base (b':=w.heap.size) HB1.out.size)
 clear hb2 ho2 HC
 go_upto_region 5 with fail
 obtain ⟨gm,hgm⟩:∃ gm,gm=w2.heap.size:=⟨_,rfl⟩
 obtain ⟨W3,hW⟩:∃ W:World,W=w2.alloc (.map #[] 0):=⟨_,rfl⟩
 have HM3:=Lib.hid (show MapPN W3 gm 0 (numP (T.take 0)) by
  rw [hW,hgm,List.take_zero,numP_nil];exact MapPN.made w2)
 have HB3:=Lib.hid (show Below w.heap.size w W3 by rw [hW];exact bA HB2.out _)
 have HX4:=Lib.hid (show Blk W3 w.heap.size 34 #[.slice none 0 0,.slice none 0 0,.slice none 0 0] by rw [hW];exact HX3.out.alloc _)
 have HO3:=Lib.hid (show Own W3 w.heap.size 42 2 ptC (.slice At T.length ct) T by rw [hW];exact HO2.out.alloc _)
 have hgl:w.heap.size≤gm:=by rw [hgm];exact HB2.out.size
 rw [← hW,← hgm]
 clear hW hgm hmm HB2 HX3 HO2
 go_upto_block 0 with fail
 go_wp2_with fail
 go_loopw [28] (fun u wr=>∃ k:Nat,k≤T.length∧u=.int .i64 k∧MapPN wr gm k (numP (T.take k))∧Below w.heap.size w wr∧Blk wr w.heap.size 34 #[.slice none 0 0,.slice none 0 0,.slice none 0 0]∧Own wr w.heap.size 42 2 ptC (.slice At T.length ct) T) (fun u _=>T.length-(intOf u).toNat)
 case atStart => exact ⟨0,Nat.zero_le _,rfl,HM3.out,HB3.out,HX4.out,HO3.out⟩
 case round =>
  obtain ⟨k,hk,rfl,mp,hb,hx,ho⟩:=hrel
  obtain ⟨w4,rfl⟩:∃ w4:World,w4=wr:=⟨_,rfl⟩
  have HMp:=Lib.hid mp;have Hb:=Lib.hid hb;have HX:=Lib.hid hx;have HO:=Lib.hid ho
  clear mp hb hx ho HM3 HB3 HX4 HO3
  by_cases hlt:k<T.length
  ·
   obtain ⟨b,o,rfl,hlb,d0,d1⟩:=Row.pt (Row.of_own HO.out) hlt
   have hwp:=HTw.out _ (List.getElem_mem hlt)
   have hTk:T.take (k+1)=T.take k++[T[k]]:=List.take_succ_eq_append_getElem hlt
   have hnk:T[k]∉T.take k:=fun hm=>by
    have h1:=HTn.out
    rw [← List.take_append_drop k T,List.nodup_append] at h1
    exact h1.2.2 _ hm _ (by rw [drop_get T hlt];exact List.mem_cons_self) rfl
   have hnum:=numP_snoc hnk
   rw [← hTk] at hnum
   have hlen:(T.take k).length=k:=by rw [List.length_take];omega
   rw [hlen] at hnum
   generalize T[k]=p at *
   go_upto_region 8 with fail
   obtain ⟨W5,hW⟩:∃ W:World,W=w4.alloc (.cells #[.int .i64 p.x,.int .i64 p.y] 42):=⟨_,rfl⟩
   have X7:Blk W5 w4.heap.size 42 #[.int .i64 p.x,.int .i64 p.y]:=by rw [hW];exact Blk.made rfl _ _
   have HM5:=Lib.hid (show MapPN W5 gm k (numP (T.take k)) by rw [hW];exact HMp.out.kept (World.grownBy_alloc _ _ none) (by simp))
   have HX5:=Lib.hid (show Blk W5 w.heap.size 34 #[.slice none 0 0,.slice none 0 0,.slice none 0 0] by rw [hW];exact HX.out.alloc _)
   have HO5:=Lib.hid (show Own W5 w.heap.size 42 2 ptC (.slice (some ⟨b,o,none⟩) T.length ct) T by rw [hW];exact HO.out.alloc _)
   have HB5:=Lib.hid (show Below w.heap.size w W5 by rw [hW];exact bA Hb.out _)
   obtain ⟨w6,r1,hm6,hg6⟩:=HM5.out.upd (by omega) p hwp ((k:Int)+1) (by omega)
   rw [hnum] at hm6
   have HM6:=Lib.hid hm6
   have HX6:=Lib.hid (HX5.out.grown hg6 (fun e=>HM5.out.blk_ne HX5.out (Option.some.inj e)))
   have HO6:=Lib.hid (HO5.out.grown hg6 (fun q hq e=>HM5.out.own_ne HO5.out (by rw [hq,Option.some.inj e])))
   have HB6:=Lib.hid (show Below w.heap.size w w6 from bG (w:=w) HB5.out hg6 (fun q hq=>by have:=Option.some.inj hq;omega))
   have hwr:IntKind.i64.wrap ((k:Int)+1)=(k:Int)+1:=IntWalk.i64_in _ (by omega)
   rw [← hW]
   clear hW d0 d1 hlb hm6 hg6 hnum hTk hnk
   obtain ⟨X7l,X7a,X7b,-,-⟩:=X7.facts2
   go_wp2_with fail
   go_roundw
   case rel => exact ⟨k+1,by omega,by go_num,HM6.out,HB6.out,HX6.out,HO6.out⟩
   case measure => simp [intOf];omega
  ·
   have hkn:k=T.length:=by omega
   subst hkn
   rw [List.take_length] at HMp
   go_wp2_with fail
   refine (HD.out gm _ _ _ Hb.out HMp.out).mono ?_
   rintro e w7 ⟨Ay,cy,ys,rfl,hb7,ho7,hrd7,hys7⟩
   rw [HM.out,HPa.out] at hys7
   have HB7:=Lib.hid (bT Hb.out hb7)
   have HX7:=Lib.hid (HX.out.keep hb7)
   have HO7:=Lib.hid (HO.out.keep hb7)
   have HM7:=Lib.hid (HMp.out.keep hb7)
   have HY7:=Lib.hid (ho7.mono_base (b':=w.heap.size) Hb.out.size)
   have HR7:=Lib.hid (fun k (hk:k<ys.length)=>(hrd7 _ (List.getElem_mem hk)).mono hb7)
   have HYs:=Lib.hid hys7
   have Hyl:=Lib.hid (show ys.length=P.length by rw [← hys7,List.length_map])
   have hyb:∀ k (hk:k<ys.length),ys[k].2.length≤4096:=fun k hk=>HPl.out.1 _ (by rw [← hys7];exact List.mem_map_of_mem (List.getElem_mem hk))
   have hyn:ys.length≤1048576:=by rw [Hyl.out];exact HPl.out.2
   have HLn:=Lib.hid (show Lns19 w7 (.slice Ay ys.length cy) ys from ⟨Sl.of_own HY7.out,HR7.out⟩)
   have HAn:=Lib.hid (show (ys.any fun x=>decide (66<x.2.length))=P.any (fun q=>decide (66<q.length)) from by rw [← hys7,List.any_map];rfl)
   have HYb:=Lib.hid hyb
   clear hb7 ho7 hrd7 hys7 hyb Hb HX HO HMp HD
   by_cases hT:256<T.length
   ·
    have HZ:=Lib.hid (bldZ_big HG.out (by rw [HBig.out];simp [hT]))
    have X7:=HX7.out
    try clear X7l
    try clear X7a
    try clear X7b
    obtain ⟨X7l,X7a,X7b,X7c,X7fa,X7fb,X7fc⟩:=X7.facts3
    go_wp2_with fail
    refine res_cell_tmp (g:=w.heap.size) (cs:=#[.slice none 0 0,.slice none 0 0,.slice none 0 0]) rfl struct_pl rfl rfl (Blk.put3 HX7.out) ?_
    exact RetBld.bad HZ.out (by decide) (bS (p:=⟨w.heap.size,2,none⟩) (bS (p:=⟨w.heap.size,1,none⟩) (bS (p:=⟨w.heap.size,0,none⟩) HB7.out (Nat.le_refl _) _) (Nat.le_refl _) _) (Nat.le_refl _) _)
   by_cases hY:256<ys.length
   ·
    have HZ:=Lib.hid (bldZ_big HG.out (by rw [HBig.out];rw [Hyl.out] at hY;simp [hY]))
    have X7:=HX7.out
    try clear X7l
    try clear X7a
    try clear X7b
    try clear X7c
    try clear X7fa
    try clear X7fb
    try clear X7fc
    obtain ⟨X7l,X7a,X7b,X7c,X7fa,X7fb,X7fc⟩:=X7.facts3
    go_wp2_with fail
    refine res_cell_tmp (g:=w.heap.size) (cs:=#[.slice none 0 0,.slice none 0 0,.slice none 0 0]) rfl struct_pl rfl rfl (Blk.put3 HX7.out) ?_
    exact RetBld.bad HZ.out (by decide) (bS (p:=⟨w.heap.size,2,none⟩) (bS (p:=⟨w.heap.size,1,none⟩) (bS (p:=⟨w.heap.size,0,none⟩) HB7.out (Nat.le_refl _) _) (Nat.le_refl _) _) (Nat.le_refl _) _)
   have HCo:=Lib.hid (fun W (hW:Below w7.heap.size w7 W)=>Cont19_spec _ ys W (HLn.out.mono hW) (by omega) (fun k hk=>by have:=HYb.out k hk;omega))
   go_wp2_with fail
   refine (HCo.out _ (bR w7)).mono ?_
   rintro e w8 ⟨rfl,hb8⟩
   rw [HAn.out]
   have HB8:=Lib.hid (bT HB7.out hb8)
   have HX8:=Lib.hid (HX7.out.keep hb8)
   have HO8:=Lib.hid (HO7.out.keep hb8)
   have HM8:=Lib.hid (HM7.out.keep hb8)
   have HY8:=Lib.hid (HY7.out.keep hb8)
   have HR8:=Lib.hid (fun k (hk:k<ys.length)=>(HR7.out k hk).mono hb8)
   clear HB7 HX7 HO7 HM7 HY7 HR7 hb8 HCo HLn HAn
   cases hA:P.any (fun q=>decide (66<q.length))
   case true =>
    have HZ:=Lib.hid (bldZ_big HG.out (by rw [HBig.out,hA];simp))
    have X7:=HX8.out
    try clear X7l
    try clear X7a
    try clear X7b
    try clear X7c
    try clear X7fa
    try clear X7fb
    try clear X7fc
    obtain ⟨X7l,X7a,X7b,X7c,X7fa,X7fb,X7fc⟩:=X7.facts3
    go_wp2_with fail
    refine res_cell_tmp (g:=w.heap.size) (cs:=#[.slice none 0 0,.slice none 0 0,.slice none 0 0]) rfl struct_pl rfl rfl (Blk.put3 HX8.out) ?_
    exact RetBld.bad HZ.out (by decide) (bS (p:=⟨w.heap.size,2,none⟩) (bS (p:=⟨w.heap.size,1,none⟩) (bS (p:=⟨w.heap.size,0,none⟩) HB8.out (Nat.le_refl _) _) (Nat.le_refl _) _) (Nat.le_refl _) _)
   case false =>
    have HBf:=Lib.hid (show bigI L=false by rw [HBig.out,hA];rw [Hyl.out] at hY;simp [hT,hY])
    have HVl:=Lib.hid (show ∀ k (hk:k<ys.length),ys[k].2.length≤66 from fun k hk=>by
     have h1:ys[k].2∈P:=by rw [← HYs.out];exact List.mem_map_of_mem (List.getElem_mem hk)
     have h2:=List.any_eq_false.1 hA _ h1
     simp at h2;omega)
    clear hA HBig
    go_upto_region 15 with fail
    obtain ⟨g10,hg10⟩:∃ g10,g10=w8.heap.size:=⟨_,rfl⟩
    obtain ⟨W9,hW⟩:∃ W:World,W=w8.alloc (.cells #[.slice none 0 0,.slice none 0 0,.slice none 0 0] 34):=⟨_,rfl⟩
    have HX10:=Lib.hid (show Blk W9 g10 34 #[.slice none 0 0,.slice none 0 0,.slice none 0 0] by rw [hW,hg10];exact Blk.made rfl _ _)
    have HB9:=Lib.hid (show Below w8.heap.size w8 W9 by rw [hW];exact bA (bR w8) _)
    have hgg:w8.heap.size≤g10:=by omega
    rw [← hW,← hg10]
    clear hW hg10
    go_upto_block 2 with fail
    go_wp2_with fail
    go_loopw [57] (fun u wr=>∃ (k:Nat) (An:Option Addr) (cn:Nat),k≤T.length∧u=.int .i64 k∧Own wr w8.heap.size 47 3 ndC (.slice An k cn) (ndsI (T.take k))∧Blk wr g10 34 #[.slice An k cn,.slice none 0 0,.slice none 0 0]∧Below w8.heap.size w8 wr) (fun u _=>T.length-(intOf u).toNat)
    case atStart => exact ⟨0,none,0,Nat.zero_le _,rfl,Own.nil _ _ _ _ _,HX10.out,HB9.out⟩
    case round =>
     obtain ⟨k,An,cn,hk,rfl,ho,hx,hb⟩:=hrel
     obtain ⟨w10,rfl⟩:∃ w10:World,w10=wr:=⟨_,rfl⟩
     have HO:=Lib.hid ho;have HX:=Lib.hid hx;have Hb:=Lib.hid hb
     clear ho hx hb HX10 HB9
     by_cases hlt:k<T.length
     ·
      obtain ⟨b,o,rfl,hlb,d0,d1⟩:=Row.pt (Row.mono (Row.of_own HO8.out) Hb.out) hlt
      have hTk:=ndsI_snoc hlt
      have hlk:(ndsI (T.take k)).length=k:=by unfold ndsI;rw [List.length_map,List.length_range,List.length_take];omega
      generalize T[k]=p at *
      have HTk:=Lib.hid hTk
      have hwr:IntKind.i64.wrap ((k:Int)+1)=(k:Int)+1:=IntWalk.i64_in _ (by omega)
      go_upto_region 18 with fail
      obtain ⟨W5,hW⟩:∃ W:World,W=w10.alloc (.cells #[.int .i64 p.x,.int .i64 p.y] 42):=⟨_,rfl⟩
      have X12:Blk W5 w10.heap.size 42 #[.int .i64 p.x,.int .i64 p.y]:=by rw [hW];exact Blk.made rfl _ _
      have HX5:=Lib.hid (show Blk W5 g10 34 #[.slice An k cn,.slice none 0 0,.slice none 0 0] by rw [hW];exact HX.out.alloc _)
      have HO5:=Lib.hid (show Own W5 w8.heap.size 47 3 ndC (.slice An k cn) (ndsI (T.take k)) by rw [hW];exact HO.out.alloc _)
      have HB5:=Lib.hid (show Below w8.heap.size w8 W5 by rw [hW];exact bA Hb.out _)
      have hb5:=HB5.out.size
      rw [← hW]
      clear hW d0 d1 hlb HO HX Hb hTk
      have X10:=HX5.out
      obtain ⟨X12l,X12a,X12b,-,-⟩:=X12.facts2
      obtain ⟨X10l,X10a,X10b,X10c,-,-,-⟩:=X10.facts3
      have hne10:=Own.ne_blk HO5.out HX5.out (by decide)
      have e1:=Lib.hid (fun x:Nd=>show (ndsI (T.take k)++[x]).length=k+1 from by rw [List.length_append,hlk];rfl)
      go_wp2_with
       (at_builtin
        go_loud (refine wpList_appl _ rfl (.tmp 63) (.tmp 68) _ rfl (base:=w8.heap.size) elem_nd ndC_len ndC_one rfl (HO5.out.alloc _) rfl (l2:=[(⟨(k:Int)+1,p⟩:Nd)]) (Sl.lit (n:=1) (Blk.made (by simp) _ _) rfl (le_maxLen (by omega))) (by rw [hlk];simp only [List.length_cons,List.length_nil];omega) (by rw [hlk];simp only [List.length_cons,List.length_nil];omega) (by simp;omega) ?_)
        intro v1 w1 ho1 hg1 hat1
        obtain ⟨A1,c1,hv1,-⟩:=Own.shape ho1
        rw [e1.out] at hv1
        subst hv1
        rw [← HTk.out] at ho1
        have hx1:=(HX5.out.alloc _).grown hg1 (fun e=>hne10 e.symm)
        have HXf:=Lib.hid (show Blk (w1.setCell ⟨g10,0,none⟩ (.slice A1 (k+1) c1)) g10 34 #[.slice A1 (k+1) c1,.slice none 0 0,.slice none 0 0] by simpa using hx1.set_ 0 (.slice A1 (k+1) c1))
        have HOf:=Lib.hid (Own.far ho1 (p:=⟨g10,0,none⟩) (Own.ne_blk ho1 hx1 (by decide)) (.slice A1 (k+1) c1))
        have HBf:=Lib.hid (show Below w8.heap.size w8 (w1.setCell ⟨g10,0,none⟩ (.slice A1 (k+1) c1)) from bS (p:=⟨g10,0,none⟩) (bG (w:=w8) (bA HB5.out _) hg1 (fun q hq=>(HO5.out.lt q hq).1)) hgg _)
        obtain ⟨zl,za,zb,zc,zfa,-,-⟩:=Blk.facts3 hx1
        clear ho1 hg1 hat1 hx1)
      go_roundw
      case rel => exact ⟨k+1,A1,c1,by omega,by go_num,HOf.out,HXf.out,HBf.out⟩
      case measure => simp [intOf];omega
     ·
      have hkn:k=T.length:=by omega
      subst hkn
      rw [List.take_length] at HO
      have HPo:=Lib.hid (show PlO w10 w8.heap.size (.slice An T.length cn) (.slice none 0 0) (.slice none 0 0) ⟨ndsI T,[],[]⟩ [] from ⟨HO.out,Own.nil _ _ _ _ _,(fun x hx=>by cases hx),rfl,Own.nil _ _ _ _ _⟩)
      go_upto_block 4 with fail
      go_wp2_with fail
      go_loopw [74] (fun u wr=>∃ (k:Nat) (ol:List (Ar×SV)) (Aa:Option Addr) (ca:Nat),k≤ys.length∧u=.int .i64 k∧ol.length=k∧PlO wr w8.heap.size (.slice An T.length cn) (.slice Aa k ca) (.slice none 0 0) ⟨ndsI T,arsI T (P.take k),[]⟩ ol∧Blk wr g10 34 #[.slice An T.length cn,.slice Aa k ca,.slice none 0 0]∧Below w8.heap.size w8 wr) (fun u _=>ys.length-(intOf u).toNat)
      case atStart => exact ⟨0,[],none,0,Nat.zero_le _,rfl,rfl,HPo.out,HX.out,Hb.out⟩
      case round =>
       obtain ⟨k,ol,Aa,ca,hk,rfl,hol,hpo,hx,hb⟩:=hrel
       obtain ⟨w11,rfl⟩:∃ w11:World,w11=wr:=⟨_,rfl⟩
       have HPl2:=Lib.hid hpo;replace HX:=Lib.hid hx;replace Hb:=Lib.hid hb;have HOl:=Lib.hid hol
       clear hpo hx hb HPo HO hol
       by_cases hlt:k<ys.length
       ·
        obtain ⟨b,o,rfl,hlb,c0⟩:=(Row.mono (Row.of_own HY8.out) Hb.out).ln hlt
        have hPk:=HR8.out k hlt
        have hq66:=HVl.out k hlt
        have hPq:P[k]? = some ys[k].2:=by rw [← HYs.out,List.getElem?_map,List.getElem?_eq_getElem hlt];rfl
        have hpart:=HPt.out ys[k].2 (List.mem_of_getElem? hPq)
        obtain ⟨Aq,cq,hvq,hq1,hq2,hRq⟩:=hPk
        rw [hvq] at c0
        unfold maxLen at hq2
        clear hvq
        generalize ys[k].2=q at *
        have harr:arsI T (P.take (k+1))=arsI T (P.take k)++[arI T k q]:=by
         obtain ⟨h1,h2⟩:=List.getElem?_eq_some_iff.1 hPq
         rw [arsI_snoc T h1,h2]
        obtain ⟨x,mid,y,hqe,hxT,hyT⟩:=hpart.ex
        have hlast:q.getLastD ⟨0,0⟩=y:=by rw [hqe,List.getLastD_eq_getLast?,← List.cons_append,last_app];rfl
        have hari:arI T k q=⟨(k:Int)+1,numP T x,numP T y,mid,0,0⟩:=by
         unfold arI
         rw [hlast,hqe,List.headD_cons,List.tail_cons,List.dropLast_concat]
        rw [hari] at harr
        have hqn:q.length=mid.length+2:=by rw [hqe];simp
        have HRq:=Lib.hid hRq
        have HQe:=Lib.hid hqe
        have HArr:=Lib.hid harr
        have hwx:=HTw.out x hxT
        have hwy:=HTw.out y hyT
        have HLx:=Lib.hid (fun W (hW:Below w8.heap.size w8 W)=>(HM8.out.keep hW).look x hwx)
        have HLy:=Lib.hid (fun W (hW:Below w8.heap.size w8 W)=>(HM8.out.keep hW).look y hwy)
        have hnx:=numP_bd T x
        have hny:=numP_bd T y
        obtain ⟨N,hN⟩:∃ N,mid.length+1=N:=⟨_,rfl⟩
        have hqN:q.length=N+1:=by omega
        obtain ⟨b1,o1,hAq,hlb1,-,-⟩:=HRq.out.pt (k:=0) (show 0<q.length by omega)
        subst hAq
        obtain ⟨b2,o2,hA2,-,d0,d1⟩:=(Row.mono HRq.out Hb.out).pt (k:=0) (show 0<q.length by omega)
        simp only [Option.some.injEq,Addr.mk.injEq,and_true] at hA2
        obtain ⟨rfl,rfl⟩:=hA2
        obtain ⟨b2,o2,hA2,-,f0,f1⟩:=(Row.mono HRq.out Hb.out).pt (k:=N) (show N<q.length by omega)
        simp only [Option.some.injEq,Addr.mk.injEq,and_true] at hA2
        obtain ⟨rfl,rfl⟩:=hA2
        have e0:q[0]'(show 0<q.length by omega)=x:=by simp only [HQe.out];rfl
        have e1:q[N]'(show N<q.length by omega)=y:=by
         simp only [HQe.out,← hN,List.getElem_cons_succ]
         rw [List.getElem_append_right (Nat.le_refl _)]
         simp
        rw [e0] at d0 d1
        rw [e1] at f0 f1
        simp only [Nat.zero_mul,Nat.add_zero] at d0 d1
        obtain ⟨Am,hAm⟩:∃ Am,cutA (some ⟨b1,o1,none⟩) cq 1 2=Am:=⟨_,rfl⟩
        obtain ⟨Cm,hCm⟩:∃ Cm,cq-1=Cm:=⟨_,rfl⟩
        have hmid:=Sl.mid_ ptC_len (show Sl w8 (.slice (some ⟨b1,o1,none⟩) q.length cq) q.length (q.flatMap ptC) from ⟨_,_,rfl,hq1,hq2,HRq.out⟩) 1 N (by omega) (by omega)
        have emid:(q.drop 1).take (N-1)=mid:=by
         rw [HQe.out,List.drop_one,List.tail_cons,show N-1=mid.length by omega,List.take_left]
        have hn1:N-1=mid.length:=by omega
        rw [emid,hAm,hCm,hn1] at hmid
        have hcut:=fun W=>run_both (P:=Tryz.prog) Tryz.underlying25 (e:=42) (size:=2) (fun _=>by kernel_rfl) (some ⟨b1,o1,none⟩) q.length cq 1 N (by omega) (by omega) hq1 (1:Int) (N:Int) rfl rfl W
        rw [hAm,hCm,hn1] at hcut
        have HCl:=Lib.hid (fun W (hW:Below w8.heap.size w8 W)=>Clone_pt_spec (.slice Am mid.length Cm) mid W (show Pts W (.slice Am mid.length Cm) mid from Sl.mono hmid hW) (by omega))
        have hwN:IntKind.i64.wrap ((q.length:Int)-1)=N:=by rw [show ((q.length:Int)-1)=N by omega];exact IntWalk.i64_in _ (by omega)
        have hwr:IntKind.i64.wrap ((k:Int)+1)=(k:Int)+1:=IntWalk.i64_in _ (by omega)
        have z1:(N:Int)<q.length:=by omega
        have z2:(0:Int)≤N:=by omega
        have z3:0<q.length:=by omega
        have z4:N<q.length:=by omega
        have hml:mid.length≤64:=by omega
        have X10:=HX.out
        have n5:=Own.ne_blk HPl2.out.ars X10 (by decide)
        have HSh:=Lib.hid (fun (y:Ar×SV)=>show (ol++[y]).length=k+1 from by rw [List.length_append,HOl.out];rfl)
        have holk:ol.length≤1000000:=by rw [HOl.out];omega
        have hb8:=Hb.out.size
        clear hRq hqe harr hari hlast hpart hPq hwx hwy hqn hqN hN e0 e1 emid hAm hCm hn1 hmid
        generalize numP T x=nx at *
        generalize numP T y=ny at *
        go_upto_region 24 with fail
        clear c0 hlb hwN
        refine rg_start (SinceB (w8.heap.size) w11) (.take 0 1 (.run 16 2 1 (.two 1 262143 (.call 18 524287 (.take 19 1048575 (.call 20 2097151 (.call 21 4194303 (.take 22 8388607 (.call 23 16777215 (.done))))))) 18 524285 (.take 19 1048573 (.two 1 1048575 (.call 20 2097151 (.call 21 4194303 (.take 22 8388607 (.call 23 16777215 (.done))))) 20 2097149 (.call 1 2097151 (.call 21 4194303 (.take 22 8388607 (.call 23 16777215 (.done)))))))))) (by kernel_rfl) (Below.drew (Below.refl _ _)) (by kernel_rfl) (by kernel_rfl) (Nat.le_of_ble_eq_true (by kernel_rfl)) ?_
        intro opsR QR Hops HQrg hS
        replace X10:=X10.drew
        iterate 7
         apply rg_pB;exact Hops;exact rfl;exact hS;exact rfl
         · intro _ hqc;go_simp;try rfl
         try simp only [pu]
        refine rg_yp (v:=.int .i64 nx) Hops rfl hS rfl (fun wq hq=>by have lk:=HLx.out _ (Hb.out.trans hq);go_simp) ?_
        try simp only [pu]
        iterate 5
         apply rg_pB;exact Hops;exact rfl;exact hS;exact rfl
         · intro _ hqc;go_simp;try rfl
         try simp only [pu]
        refine rg_yp (v:=.int .i64 ny) Hops rfl hS rfl (fun wq hq=>by have lk:=HLy.out _ (Hb.out.trans hq);go_simp) ?_
        try simp only [pu]
        iterate 3
         apply rg_pB;exact Hops;exact rfl;exact hS;exact rfl
         · intro _ hqc;go_simp;try rfl
         try simp only [pu]
        refine rg_two (i:=1) (j:=18) (get_of Hops rfl) (get_of Hops rfl) (fun K hK=>?_) (fun K hK=>?_)
        ·
         have HSrg:=Lib.hid hS;clear hS
         refine rg_run (wanted_plain rfl) ?_
         obtain ⟨q1,q2,q3,q4,-⟩:=Blk.facts3 X10
         go_simp
         refine hK.out _ _ HSrg.out (fun hS=>?_)
         clear hK K HSrg
         try simp only [pu]
         refine rg_call (i:=18) (get_of Hops rfl) (fun K hK=>?_)
         have HSrg:=Lib.hid hS;clear hS
         refine rg_run (wanted_plain rfl) ?_
         go_simp
         refine (HCl.out _ (Hb.out.trans HSrg.out)).mono ?_
         rintro e wr1 ⟨A9,c9,rfl,hbr1,ho9⟩
         have hS:SinceB (w8.heap.size) w11 wr1:=(show Below (w8.heap.size) w11 _ from HSrg.out).trans (hbr1.mono (Nat.le_trans (by omega) (show Below (w8.heap.size) w11 _ from HSrg.out).size))
         clear HSrg
         try replace XL:=XL.keep hbr1
         try replace X10:=X10.keep hbr1
         refine hK.out _ _ hS (fun _=>?_)
         clear hK K
         try simp only [pu]
         apply rg_pB;exact Hops;exact rfl;exact hS;exact rfl
         · intro _ hqc;go_simp;try rfl
         try simp only [pu]
         refine rg_call (i:=20) (get_of Hops rfl) (fun K hK=>?_)
         have HSrg:=Lib.hid hS;clear hS
         refine rg_run (wanted_plain rfl) ?_
         go_simp
         have XLy:Below (w8.heap.size) w11 (wr1):=HSrg.out
         have XLz:w8.heap.size≤(wr1).heap.size:=Nat.le_trans (by omega) (show Below (w8.heap.size) w11 (wr1) from HSrg.out).size
         refine hK.out _ _ (bAB (by omega) HSrg.out _) (fun hS=>?_)
         clear hK K HSrg
         try replace X10:=X10.alloc (.cells #[.int .i64 ((k:Int)+1),.int .i64 nx,.int .i64 ny,.slice A9 mid.length c9,.int .i64 0,.int .i64 0] 50)
         try replace XL:=XL.alloc (.cells #[.int .i64 ((k:Int)+1),.int .i64 nx,.int .i64 ny,.slice A9 mid.length c9,.int .i64 0,.int .i64 0] 50)
         have XL:=Blk.new (wr1) 50 #[.int .i64 ((k:Int)+1),.int .i64 nx,.int .i64 ny,.slice A9 mid.length c9,.int .i64 0,.int .i64 0]
         try simp only [World.size_drew,World.size_alloc] at XL XLz
         try simp only [World.alloc_drew] at X10
         try simp only [World.alloc_drew] at XL
         try simp only [pu]
         refine rg_call (i:=21) (get_of Hops rfl) (fun K hK=>?_)
         have HSrg:=Lib.hid hS;clear hS
         refine rg_run (wanted_plain rfl) ?_
         refine wp_appl (.tmp 83) (.tmp 102) _ rfl (base:=w8.heap.size) elem_ar arS_len arS_one rfl (((HPl2.out.ars.keep (bD (bR w11))).keep hbr1).alloc _) rfl (l2:=[((⟨(k:Int)+1,nx,ny,mid,0,0⟩:Ar),(⟨A9,mid.length,c9⟩:SV))]) (Sl.lit (n:=1) (Blk.made rfl _ _) rfl (le_maxLen (by omega))) (by simp only [List.length_cons,List.length_nil];omega) (by simp only [List.length_cons,List.length_nil];omega) (by have:=hbr1.size;simp at this;simp;omega) ?_
         intro v7 w7 ho7 hg7 hat7
         obtain ⟨A7,c7,hv7,-⟩:=Own.shape_ ho7
         rw [HSh.out] at hv7
         subst hv7
         have hX7:=Blk.grown X10 hg7 (fun e=>n5 e.symm)
         obtain ⟨q1,q2,q3,q4,q5,q6,q7⟩:=Blk.facts3 hX7
         have hmr:=PlO.more (((HPl2.out.keep (bD (bR w11))).keep hbr1).keep (bA (bR _) _)) ho7 hg7 (Own.alloc (ho9.mono_base (by simp;omega)) _)
         have HPf:=Lib.hid (hmr.far hX7 (by decide) (by decide) (by decide) (by decide) 1 (.slice A7 (k+1) c7))
         have HXf:=Lib.hid (hX7.set_ 1 (.slice A7 (k+1) c7))
         have HBf:=Lib.hid (bS (p:=⟨g10,1,none⟩) (bG (bA (bT (bT Hb.out (bD (bR w11))) hbr1) _) hg7 (fun q hq=>(HPl2.out.ars.lt q hq).1)) hgg (.slice A7 (k+1) c7))
         have hS:SinceB w8.heap.size w11 w7:=Below.grown (show Below w8.heap.size w11 _ from HSrg.out) hg7 (by have:=hbr1.size;simp at this;simp;omega) (fun q hq=>(HPl2.out.ars.lt q hq).1)
         clear hmr hX7 ho7 hg7 hat7
         clear HSrg
         refine hK.out _ _ hS (fun _=>?_)
         clear hK K
         try simp only [pu]
         apply rg_pB;exact Hops;exact rfl;exact hS;exact rfl
         · intro _ hqc;go_simp;try rfl
         try simp only [pu]
         refine rg_call (i:=23) (get_of Hops rfl) (fun K hK=>?_)
         have HSrg:=Lib.hid hS;clear hS
         refine rg_run (wanted_plain rfl) ?_
         go_simp
         refine hK.out _ _ (by unfold SinceB;have h:Below _ _ _:=HSrg.out;repeat (first | with_reducible assumption | with_reducible exact Below.refl _ _ | with_reducible refine bSB ?_ (by first | omega | (simp;omega)) _ | with_reducible refine Below.drew ?_ | with_reducible refine bAB (by omega) ?_ _ | exact h)) ?_
         intro hS
         clear hK K HSrg
         try simp only [pu]
         refine rg_done ?_
         refine HQrg.down _ _ ?_
         have hB:Below (w8.heap.size) w11 _:=hS
         clear hS HQrg Hops
         go_wp2_with fail
         go_roundw
         case rel => exact ⟨k+1,_,A7,c7,by omega,by go_num,HSh.out _,by rw [HArr.out];exact HPf.out,by simpa using HXf.out,HBf.out⟩
         case measure => simp [intOf];omega
        ·
         have HSrg:=Lib.hid hS;clear hS
         refine rg_run (wanted_plain rfl) ?_
         go_simp
         refine (HCl.out _ (Hb.out.trans HSrg.out)).mono ?_
         rintro e wr1 ⟨A9,c9,rfl,hbr1,ho9⟩
         have hS:SinceB (w8.heap.size) w11 wr1:=(show Below (w8.heap.size) w11 _ from HSrg.out).trans (hbr1.mono (Nat.le_trans (by omega) (show Below (w8.heap.size) w11 _ from HSrg.out).size))
         clear HSrg
         try replace XL:=XL.keep hbr1
         try replace X10:=X10.keep hbr1
         refine hK.out _ _ hS (fun _=>?_)
         clear hK K
         try simp only [pu]
         apply rg_pB;exact Hops;exact rfl;exact hS;exact rfl
         · intro _ hqc;go_simp;try rfl
         try simp only [pu]
         refine rg_two (i:=1) (j:=20) (get_of Hops rfl) (get_of Hops rfl) (fun K hK=>?_) (fun K hK=>?_)
         ·
          have HSrg:=Lib.hid hS;clear hS
          refine rg_run (wanted_plain rfl) ?_
          obtain ⟨q1,q2,q3,q4,-⟩:=Blk.facts3 X10
          go_simp
          refine hK.out _ _ HSrg.out (fun hS=>?_)
          clear hK K HSrg
          try simp only [pu]
          refine rg_call (i:=20) (get_of Hops rfl) (fun K hK=>?_)
          have HSrg:=Lib.hid hS;clear hS
          refine rg_run (wanted_plain rfl) ?_
          go_simp
          have XLy:Below (w8.heap.size) w11 (wr1):=HSrg.out
          have XLz:w8.heap.size≤(wr1).heap.size:=Nat.le_trans (by omega) (show Below (w8.heap.size) w11 (wr1) from HSrg.out).size
          refine hK.out _ _ (bAB (by omega) HSrg.out _) (fun hS=>?_)
          clear hK K HSrg
          try replace X10:=X10.alloc (.cells #[.int .i64 ((k:Int)+1),.int .i64 nx,.int .i64 ny,.slice A9 mid.length c9,.int .i64 0,.int .i64 0] 50)
          try replace XL:=XL.alloc (.cells #[.int .i64 ((k:Int)+1),.int .i64 nx,.int .i64 ny,.slice A9 mid.length c9,.int .i64 0,.int .i64 0] 50)
          have XL:=Blk.new (wr1) 50 #[.int .i64 ((k:Int)+1),.int .i64 nx,.int .i64 ny,.slice A9 mid.length c9,.int .i64 0,.int .i64 0]
          try simp only [World.size_drew,World.size_alloc] at XL XLz
          try simp only [World.alloc_drew] at X10
          try simp only [World.alloc_drew] at XL
          try simp only [pu]
          refine rg_call (i:=21) (get_of Hops rfl) (fun K hK=>?_)
          have HSrg:=Lib.hid hS;clear hS
          refine rg_run (wanted_plain rfl) ?_
          refine wp_appl (.tmp 83) (.tmp 102) _ rfl (base:=w8.heap.size) elem_ar arS_len arS_one rfl (((HPl2.out.ars.keep (bD (bR w11))).keep hbr1).alloc _) rfl (l2:=[((⟨(k:Int)+1,nx,ny,mid,0,0⟩:Ar),(⟨A9,mid.length,c9⟩:SV))]) (Sl.lit (n:=1) (Blk.made rfl _ _) rfl (le_maxLen (by omega))) (by simp only [List.length_cons,List.length_nil];omega) (by simp only [List.length_cons,List.length_nil];omega) (by have:=hbr1.size;simp at this;simp;omega) ?_
          intro v7 w7 ho7 hg7 hat7
          obtain ⟨A7,c7,hv7,-⟩:=Own.shape_ ho7
          rw [HSh.out] at hv7
          subst hv7
          have hX7:=Blk.grown X10 hg7 (fun e=>n5 e.symm)
          obtain ⟨q1,q2,q3,q4,q5,q6,q7⟩:=Blk.facts3 hX7
          have hmr:=PlO.more (((HPl2.out.keep (bD (bR w11))).keep hbr1).keep (bA (bR _) _)) ho7 hg7 (Own.alloc (ho9.mono_base (by simp;omega)) _)
          have HPf:=Lib.hid (hmr.far hX7 (by decide) (by decide) (by decide) (by decide) 1 (.slice A7 (k+1) c7))
          have HXf:=Lib.hid (hX7.set_ 1 (.slice A7 (k+1) c7))
          have HBf:=Lib.hid (bS (p:=⟨g10,1,none⟩) (bG (bA (bT (bT Hb.out (bD (bR w11))) hbr1) _) hg7 (fun q hq=>(HPl2.out.ars.lt q hq).1)) hgg (.slice A7 (k+1) c7))
          have hS:SinceB w8.heap.size w11 w7:=Below.grown (show Below w8.heap.size w11 _ from HSrg.out) hg7 (by have:=hbr1.size;simp at this;simp;omega) (fun q hq=>(HPl2.out.ars.lt q hq).1)
          clear hmr hX7 ho7 hg7 hat7
          clear HSrg
          refine hK.out _ _ hS (fun _=>?_)
          clear hK K
          try simp only [pu]
          apply rg_pB;exact Hops;exact rfl;exact hS;exact rfl
          · intro _ hqc;go_simp;try rfl
          try simp only [pu]
          refine rg_call (i:=23) (get_of Hops rfl) (fun K hK=>?_)
          have HSrg:=Lib.hid hS;clear hS
          refine rg_run (wanted_plain rfl) ?_
          go_simp
          refine hK.out _ _ (by unfold SinceB;have h:Below _ _ _:=HSrg.out;repeat (first | with_reducible assumption | with_reducible exact Below.refl _ _ | with_reducible refine bSB ?_ (by first | omega | (simp;omega)) _ | with_reducible refine Below.drew ?_ | with_reducible refine bAB (by omega) ?_ _ | exact h)) ?_
          intro hS
          clear hK K HSrg
          try simp only [pu]
          refine rg_done ?_
          refine HQrg.down _ _ ?_
          have hB:Below (w8.heap.size) w11 _:=hS
          clear hS HQrg Hops
          go_wp2_with fail
          go_roundw
          case rel => exact ⟨k+1,_,A7,c7,by omega,by go_num,HSh.out _,by rw [HArr.out];exact HPf.out,by simpa using HXf.out,HBf.out⟩
          case measure => simp [intOf];omega
         ·
          have HSrg:=Lib.hid hS;clear hS
          refine rg_run (wanted_plain rfl) ?_
          go_simp
          have XLy:Below (w8.heap.size) w11 (wr1):=HSrg.out
          have XLz:w8.heap.size≤(wr1).heap.size:=Nat.le_trans (by omega) (show Below (w8.heap.size) w11 (wr1) from HSrg.out).size
          refine hK.out _ _ (bAB (by omega) HSrg.out _) (fun hS=>?_)
          clear hK K HSrg
          try replace X10:=X10.alloc (.cells #[.int .i64 ((k:Int)+1),.int .i64 nx,.int .i64 ny,.slice A9 mid.length c9,.int .i64 0,.int .i64 0] 50)
          try replace XL:=XL.alloc (.cells #[.int .i64 ((k:Int)+1),.int .i64 nx,.int .i64 ny,.slice A9 mid.length c9,.int .i64 0,.int .i64 0] 50)
          have XL:=Blk.new (wr1) 50 #[.int .i64 ((k:Int)+1),.int .i64 nx,.int .i64 ny,.slice A9 mid.length c9,.int .i64 0,.int .i64 0]
          try simp only [World.size_drew,World.size_alloc] at XL XLz
          try simp only [World.alloc_drew] at X10
          try simp only [World.alloc_drew] at XL
          try simp only [pu]
          refine rg_call (i:=1) (get_of Hops rfl) (fun K hK=>?_)
          have HSrg:=Lib.hid hS;clear hS
          refine rg_run (wanted_plain rfl) ?_
          obtain ⟨q1,q2,q3,q4,-⟩:=Blk.facts3 X10
          go_simp
          refine hK.out _ _ HSrg.out (fun hS=>?_)
          clear hK K HSrg
          try simp only [pu]
          refine rg_call (i:=21) (get_of Hops rfl) (fun K hK=>?_)
          have HSrg:=Lib.hid hS;clear hS
          refine rg_run (wanted_plain rfl) ?_
          refine wp_appl (.tmp 83) (.tmp 102) _ rfl (base:=w8.heap.size) elem_ar arS_len arS_one rfl (((HPl2.out.ars.keep (bD (bR w11))).keep hbr1).alloc _) rfl (l2:=[((⟨(k:Int)+1,nx,ny,mid,0,0⟩:Ar),(⟨A9,mid.length,c9⟩:SV))]) (Sl.lit (n:=1) (Blk.made rfl _ _) rfl (le_maxLen (by omega))) (by simp only [List.length_cons,List.length_nil];omega) (by simp only [List.length_cons,List.length_nil];omega) (by have:=hbr1.size;simp at this;simp;omega) ?_
          intro v7 w7 ho7 hg7 hat7
          obtain ⟨A7,c7,hv7,-⟩:=Own.shape_ ho7
          rw [HSh.out] at hv7
          subst hv7
          have hX7:=Blk.grown X10 hg7 (fun e=>n5 e.symm)
          obtain ⟨q1,q2,q3,q4,q5,q6,q7⟩:=Blk.facts3 hX7
          have hmr:=PlO.more (((HPl2.out.keep (bD (bR w11))).keep hbr1).keep (bA (bR _) _)) ho7 hg7 (Own.alloc (ho9.mono_base (by simp;omega)) _)
          have HPf:=Lib.hid (hmr.far hX7 (by decide) (by decide) (by decide) (by decide) 1 (.slice A7 (k+1) c7))
          have HXf:=Lib.hid (hX7.set_ 1 (.slice A7 (k+1) c7))
          have HBf:=Lib.hid (bS (p:=⟨g10,1,none⟩) (bG (bA (bT (bT Hb.out (bD (bR w11))) hbr1) _) hg7 (fun q hq=>(HPl2.out.ars.lt q hq).1)) hgg (.slice A7 (k+1) c7))
          have hS:SinceB w8.heap.size w11 w7:=Below.grown (show Below w8.heap.size w11 _ from HSrg.out) hg7 (by have:=hbr1.size;simp at this;simp;omega) (fun q hq=>(HPl2.out.ars.lt q hq).1)
          clear hmr hX7 ho7 hg7 hat7
          clear HSrg
          refine hK.out _ _ hS (fun _=>?_)
          clear hK K
          try simp only [pu]
          apply rg_pB;exact Hops;exact rfl;exact hS;exact rfl
          · intro _ hqc;go_simp;try rfl
          try simp only [pu]
          refine rg_call (i:=23) (get_of Hops rfl) (fun K hK=>?_)
          have HSrg:=Lib.hid hS;clear hS
          refine rg_run (wanted_plain rfl) ?_
          go_simp
          refine hK.out _ _ (by unfold SinceB;have h:Below _ _ _:=HSrg.out;repeat (first | with_reducible assumption | with_reducible exact Below.refl _ _ | with_reducible refine bSB ?_ (by first | omega | (simp;omega)) _ | with_reducible refine Below.drew ?_ | with_reducible refine bAB (by omega) ?_ _ | exact h)) ?_
          intro hS
          clear hK K HSrg
          try simp only [pu]
          refine rg_done ?_
          refine HQrg.down _ _ ?_
          have hB:Below (w8.heap.size) w11 _:=hS
          clear hS HQrg Hops
          go_wp2_with fail
          go_roundw
          case rel => exact ⟨k+1,_,A7,c7,by omega,by go_num,HSh.out _,by rw [HArr.out];exact HPf.out,by simpa using HXf.out,HBf.out⟩
          case measure => simp [intOf];omega
       ·
        have hkn:k=ys.length:=by omega
        subst hkn
        have hPt:P.take ys.length=P:=List.take_of_length_le (by rw [Hyl.out];exact Nat.le_refl _)
        have HPq:=Lib.hid (show PlO w11 w8.heap.size (.slice An T.length cn) (.slice Aa ys.length ca) (.slice none 0 0) (plI L) ol by
         have h9:=HPl2.out
         rw [hPt] at h9
         rw [HPlan.out];exact h9)
        have HPV:=Lib.hid HPq.out.plv
        have hmod:Mod (plI L):=by
         rw [HPlan.out]
         refine ⟨?_,?_,fun a ha=>?_⟩
         ·
          show (ndsI T).length≤_
          unfold ndsI;rw [List.length_map,List.length_range];omega
         ·
          show (arsI T P).length≤_
          unfold arsI;rw [List.length_map,List.length_range,← Hyl.out];omega
         ·
          have ha':a∈arsI T P:=ha
          unfold arsI at ha'
          obtain ⟨i,hi,rfl⟩:=List.mem_map.1 ha'
          have hi:=List.mem_range.1 hi
          have h1:=HPl.out.1 (P.getD i []) (by rw [List.getD_eq_getElem?_getD,List.getElem?_eq_getElem hi];exact List.getElem_mem hi)
          unfold arI
          simp only [List.length_dropLast,List.length_tail]
          omega
        have hbare:bareP (plI L)=plI L:=by
         rw [HPlan.out]
         unfold bareP planI
         simp only [Pl.mk.injEq,and_true,true_and]
         unfold arsI
         rw [List.map_map]
         rfl
        have HCk:=Lib.hid (Check_spec _ (plI L) _ HPV.out)
        have HLo:=Lib.hid (fun W (hW:Below w11.heap.size w11 W) (hz:checkS (plI L)=0)=>Label_ok _ (plI L) W (HPV.out.mono hW) hmod (by rw [hbare];exact hz))
        have HLz:=Lib.hid (show labZ (plI L)=if checkS (plI L)≠0 then checkS (plI L) else if 64<(outX (bareP (plI L))).length then 3 else 0 by unfold labZ;rw [hbare])
        have HBc:=Lib.hid (fun hc=>bldZ_cross HG.out HBf.out hc)
        have HBl:=Lib.hid (fun hc=>bldZ_lab HG.out HBf.out hc)
        have HX11:=Lib.hid (HX8.out.keep Hb.out)
        have HB11:=Lib.hid (bT HB8.out Hb.out)
        have X10:=HX.out
        clear hPt HPl2 HPl HYb HVl HPt HTw HTn HO8 HM8 HY8 HR8 HX8 HB8 Hb hmod hbare HBf HPV HYs Hyl hyn hTl
        generalize checkS (plI L)=z at *
        try clear X10l
        try clear X10a
        try clear X10b
        try clear X10c
        obtain ⟨X10l,X10a,X10b,X10c,-,-,-⟩:=X10.facts3
        go_wp2_with fail
        refine HCk.out.mono ?_
        rintro e w12 ⟨rfl,hb12⟩
        have HX12:=Lib.hid (HX11.out.keep hb12)
        have HB12:=Lib.hid (bT HB11.out hb12)
        have HXt:=Lib.hid (HX.out.keep hb12)
        have hb12':=Lib.hid hb12
        clear hb12 HX11 HB11 X10 X10l X10a X10b X10c HX HCk HPq
        by_cases hz:z=0
        ·
         subst hz
         have X10:=HXt.out
         try clear X10l
         try clear X10a
         try clear X10b
         try clear X10c
         obtain ⟨X10l,X10a,X10b,X10c,-,-,-⟩:=X10.facts3
         go_wp2_with fail
         refine (HLo.out _ hb12'.out (by trivial)).mono ?_
         have hB0:=HBl.out (by trivial)
         rw [HLz.out,if_neg (by simp)] at hB0
         rintro e w13 (⟨h64,rfl,hb13⟩ | ⟨h64,A1,c1,A2,c2,A3,c3,bl,rfl,hb13,hpo⟩)
         ·
          rw [if_pos h64] at hB0
          have HB0:=Lib.hid hB0
          have HX13:=Lib.hid (HX12.out.keep hb13)
          have HB13:=Lib.hid (bT HB12.out hb13)
          have X13:=HX13.out
          clear hB0 hb13 h64 X10 X10l X10a X10b X10c HXt
          obtain ⟨X13l,X13a,X13b,X13c,X13fa,X13fb,X13fc⟩:=X13.facts3
          unfold plan0
          go_wp2_with fail
          refine res_cell_tmp (g:=w.heap.size) (cs:=#[.slice none 0 0,.slice none 0 0,.slice none 0 0]) rfl struct_pl rfl rfl (Blk.put3 HX13.out) ?_
          exact RetBld.bad HB0.out (by decide) (bS (p:=⟨w.heap.size,2,none⟩) (bS (p:=⟨w.heap.size,1,none⟩) (bS (p:=⟨w.heap.size,0,none⟩) HB13.out (Nat.le_refl _) _) (Nat.le_refl _) _) (Nat.le_refl _) _)
         ·
          rw [if_neg h64] at hB0
          have HB0:=Lib.hid hB0
          have HX13:=Lib.hid (HX12.out.keep hb13)
          have HB13:=Lib.hid (bT HB12.out hb13)
          have HPo:=Lib.hid hpo
          have X13:=HX13.out
          have HBp:=Lib.hid (show bldP L=labP (plI L) by unfold bldP;rw [if_pos HB0.out])
          clear hB0 hb13 h64 X10 X10l X10a X10b X10c HXt hpo
          generalize (labP (plI L)).nodes.length=m1 at *
          generalize (labP (plI L)).arcs.length=m2 at *
          generalize (labP (plI L)).faces.length=m3 at *
          try clear X13l
          try clear X13a
          try clear X13b
          try clear X13c
          try clear X13fa
          try clear X13fb
          try clear X13fc
          obtain ⟨X13l,X13a,X13b,X13c,X13fa,X13fb,X13fc⟩:=X13.facts3
          go_wp2_with fail
          refine res_cell_tmp (g:=w.heap.size) (cs:=#[.slice A1 m1 c1,.slice A2 m2 c2,.slice A3 m3 c3]) rfl struct_pl rfl rfl (Blk.put3 HX13.out) ?_
          have h1:=HX13.out.set_ 0 (.slice A1 m1 c1)
          have h2:=h1.set_ 1 (.slice A2 m2 c2)
          have hp1:=HPo.out.far HX13.out (by decide) (by decide) (by decide) (by decide) 0 (.slice A1 m1 c1)
          have hp2:=hp1.far h1 (by decide) (by decide) (by decide) (by decide) 1 (.slice A2 m2 c2)
          have hp3:=hp2.far h2 (by decide) (by decide) (by decide) (by decide) 2 (.slice A3 m3 c3)
          exact ⟨_,by rw [HB0.out];rfl,bS (p:=⟨w.heap.size,2,none⟩) (bS (p:=⟨w.heap.size,1,none⟩) (bS (p:=⟨w.heap.size,0,none⟩) HB13.out (Nat.le_refl _) _) (Nat.le_refl _) _) (Nat.le_refl _) _,by rw [HBp.out];exact hp3.plv⟩
        ·
         have hz':(z != 0)=true:=by simpa using hz
         have HZ:=Lib.hid (HBc.out hz)
         have X12:=HX12.out
         clear hz HBc HBl HLz HLo HXt
         try clear X12l
         try clear X12a
         try clear X12b
         obtain ⟨X12l,X12a,X12b,X12c,X12fa,X12fb,X12fc⟩:=X12.facts3
         go_wp2_with fail
         refine res_cell_tmp (g:=w.heap.size) (cs:=#[.slice none 0 0,.slice none 0 0,.slice none 0 0]) rfl struct_pl rfl rfl (Blk.put3 HX12.out) ?_
         exact RetBld.bad HZ.out (by decide) (bS (p:=⟨w.heap.size,2,none⟩) (bS (p:=⟨w.heap.size,1,none⟩) (bS (p:=⟨w.heap.size,0,none⟩) HB12.out (Nat.le_refl _) _) (Nat.le_refl _) _) (Nat.le_refl _) _)
end Go.Proofs.YtpempeioeiaijaaGreat
