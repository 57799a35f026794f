import Derived.Test.YtialfdomhoojiaaGreatJ32
import Derived.Test.YtialfdomhoojiaaGreatJ15
import Derived.Test.YtialfdomhoojiaaGreatJ04
import Derived.Test.YtialfdomhoojiaaGreatJ28
import Derived.Test.YtialfdomhoojiaaGreatJ07
import Derived.Test.YtialfdomhoojiaaGreatJ01
import Derived.Test.YtialfdomhoojiaaGreatJ30
import Derived.Test.YtialfdomhoojiaaGreatRegLB
set_option linter.unusedSimpArgs false
set_option linter.unusedVariables false
namespace Go.Proofs.YtialfdomhoojiaaGreat
open Go.RowKit

theorem run_ix2 (a b:Int) (W:World):(Instr.index 116 (.agg #[.int .i64 a,.int .i64 b]) (.int .i64 0)).run Tryz.prog W=.ok (.int .i64 a) W∧(Instr.index 116 (.agg #[.int .i64 a,.int .i64 b]) (.int .i64 1)).run Tryz.prog W=.ok (.int .i64 b) W:=⟨by kernel_rfl,by kernel_rfl⟩

set_option maxRecDepth 100000 in
set_option maxHeartbeats 8000000 in
theorem Middle_ok (v:Value) (p:Pl) (fc:Int) (w:World) (h:PlV w v p) (hv:rchkS p=0):Calls Tryz.prog 30 #[v,.int .i64 fc] w fun e w'=>e=.returned (optPt (midP p fc))∧Below w.heap.size w w':=by
 obtain ⟨hvv,hfb⟩:=rchk_ok hv
 have hf:=facB_iff.1 hfb
 have Hix:=Lib.hid (idx_reg hf fc)
 have HC:=Lib.hid (fun W (hW:Below w.heap.size w W)=>Read_ok v p W (h.mono hW) hv)
 have HPv:=Lib.hid h
 have HVv:=Lib.hid hvv
 have hol:(outX p).length≤512:=Nat.le_trans (List.length_filter_le _ _) hvv.cycs_len
 obtain ⟨q,hq⟩:∃ q,midP p fc=q:=⟨_,rfl⟩
 rw [hq]
 have HQ:=Lib.hid hq
 obtain ⟨_,_,_,al,rfl,-,⟨An,cn,rfl,-⟩,⟨⟨Aa,ca,rfl,-⟩,-⟩,⟨Af,cf,rfl,-⟩⟩:=h
 obtain ⟨V,hV⟩:∃ V:Value,V=.agg #[.slice An p.nodes.length cn,.slice Aa al.length ca,.slice Af p.faces.length cf]:=⟨_,rfl⟩
 rw [← hV] at HPv
 have HVe:=Lib.hid hV
 generalize p.nodes.length=nn at *
 generalize al.length=na at *
 generalize p.faces.length=nf at *
 clear hq hV hvv hfb hv hf
 go_enter Tryz.func30,Tryz.ntmps30
 go_upto_region 1 with fail
 obtain ⟨W1,hW⟩:∃ W:World,W=(w.alloc (.cells #[.slice An nn cn,.slice Aa na ca,.slice Af nf cf] 26)).alloc (.cells #[.int .i64 0,.int .i64 0] 39):=⟨_,rfl⟩
 have X2:Blk W1 w.heap.size 26 #[.slice An nn cn,.slice Aa na ca,.slice Af nf cf]:=by rw [hW];exact (Blk.made rfl _ _).alloc _
 have X4:Blk W1 (w.heap.size+1) 39 #[.int .i64 0,.int .i64 0]:=by rw [hW];exact Blk.made (by simp) _ _
 have HB1:=Lib.hid (show Below w.heap.size w W1 by rw [hW];exact bA (bA (bR w) _) _)
 rw [← hW]
 clear hW
 obtain ⟨g4,h4⟩:∃ g,w.heap.size+1=g:=⟨_,rfl⟩
 have hg4:w.heap.size≤g4:=by omega
 rw [h4] at X4 ⊢
 obtain ⟨g2,h2⟩:∃ g,w.heap.size=g:=⟨_,rfl⟩
 rw [h2] at X2 ⊢
 have HX2:=Lib.hid X2;have HX4:=Lib.hid X4
 have n24:g2≠g4:=by omega
 have n42:g4≠g2:=by omega
 clear h4 h2 X4
 obtain ⟨X2l,X2a,X2b,X2c,-,-,-⟩:=X2.facts3
 go_wp2_with fail
 refine (HC.out _ HB1.out).mono ?_
 rintro e w1 ⟨A,c,L,A',c',gm,f,rfl,hb1,haf,hfi,hdv,htw,hpm,hgm,-⟩
 have HB2:=Lib.hid (bT HB1.out hb1)
 have hll:L.length=(outX p).length+1:=hdv.len
 rw [hll] at hfi
 have HIx:=Lib.hid (fun W (hW:Below w1.heap.size w1 W)=>Index_at_spec _ _ fc W (hfi.mono hW))
 have HX2b:=Lib.hid (HX2.out.keep hb1);have HX4b:=Lib.hid (HX4.out.keep hb1)
 have HA:=Lib.hid haf;have HD:=Lib.hid hdv;have HPm:=Lib.hid hpm;have HL:=Lib.hid hll
 rw [← hll] at HIx
 clear hb1 HC X2 X2l X2a X2b X2c HX2 HX4 HB1 haf hfi hdv htw hpm hgm hll
 go_wp2_with fail
 refine (HIx.out _ (bR w1)).mono ?_
 rintro e w2 ⟨rfl,hb2⟩
 have HB3:=Lib.hid (bT HB2.out hb2)
 have HX2c:=Lib.hid (HX2b.out.keep hb2);have HX4c:=Lib.hid (HX4b.out.keep hb2);have HA2:=Lib.hid (HA.out.mono hb2);have HPm2:=Lib.hid (HPm.out.keep hb2)
 rw [HL.out]
 clear hb2 HIx HX2b HX4b HA HPm HB2
 have hix:=Hix.out
 clear Hix
 rcases hix with ⟨i,hi,hz,hreg⟩ | ⟨hz,hreg⟩
 case inr =>
  have hq:=HQ.out
  unfold midP at hq
  rw [hreg] at hq
  have HQn:=Lib.hid (show q=none from hq.symm)
  generalize idxZ _ fc=z at *
  have X4:=HX4c.out
  clear hq HQ hreg
  obtain ⟨X4l,X4a,X4b,X4fa,X4fb⟩:=X4.facts2
  go_wp2_with fail
  refine res_cell_tmp (t:=39) (g:=g4) (cs:=#[.int .i64 0,.int .i64 0]) rfl struct_pt rfl rfl (Blk.put2 HX4c.out) ⟨by rw [HQn.out];rfl,bS (p:=⟨g4,1,none⟩) (bS (p:=⟨g4,0,none⟩) HB3.out hg4 _) hg4 _⟩
 case inl =>
  rw [hz]
  have HReg:=Lib.hid hreg
  have kz:¬ (i:Int)+1<1:=by omega
  clear hz hreg
  go_upto_region 7 with fail
  have hlL:i+1<L.length:=by rw [HL.out];omega
  have hX:(outX p)[i]∈outX p:=List.getElem_mem hi
  obtain ⟨X,hXe⟩:∃ X,(outX p)[i]=X:=⟨_,rfl⟩
  have hout:=HD.out.out_at hlL (by omega)
  have hcy:=HD.out.cys_at hlL
  have hkey:keyA (outX p) (i+1)=some X:=by rw [keyA_some (by omega) (by omega)];simp only [Nat.add_sub_cancel];rw [hXe]
  unfold cyI at hcy
  rw [hkey] at hcy
  have hal:L[i+1].alo=aloX p (some X):=by rw [HD.out.alo (i+1) hlL,hkey];rfl
  simp only [Nat.add_sub_cancel] at hout
  rw [hXe] at hout hX HReg
  have hmem:=List.getElem_mem hlL
  have HR:=Lib.hid (fun W (hW:Below w2.heap.size w2 W)=>(HA2.out.mono hW).sl)
  have HRo:=Lib.hid (fun W (hW:Below w2.heap.size w2 W)=>(HA2.out.mono hW).out _ hmem)
  have HRi:=Lib.hid (fun W (hW:Below w2.heap.size w2 W)=>(HA2.out.mono hW).inn _ hmem)
  have HRc:=Lib.hid (fun W (hW:Below w2.heap.size w2 W)=>(HA2.out.mono hW).cyc _ hmem)
  have HRa:=Lib.hid (fun W (hW:Below w2.heap.size w2 W)=>(HA2.out.mono hW).alo _ hmem)
  have hsgl:(segX p X).length≤33280:=by
   have h1:=HVv.out.segB_len (b:=some X) (List.mem_cons_of_mem _ (List.mem_map_of_mem hX))
   have h2:=len_in_flat (segX p) (l:=cysX p (some X)) (a:=X) List.mem_cons_self
   unfold segB at h1
   omega
  have hdd:=(HVv.out.cyc_nodup (mem_outX.1 hX).1).2
  have hmi:midP p fc=midB p (some X) (boxL (endsL (segX p X))).y0 (boxL (endsL (segX p X))).y1:=by unfold midP;rw [HReg.out]
  rw [HQ.out] at hmi
  have hne:endsL (segX p X)≠[]:=by
   have hh:=HVv.out.head_in (mem_outX.1 hX).1
   obtain ⟨a,ha,-,hp⟩:=HVv.out.pth_dart (hdd _ hh)
   have hl:=pathS_length p a
   have hpt:(pathS p a).getD 0 pt0∈endsL (segX p X):=(HVv.out.ends_pts hdd _).2 (List.mem_flatMap.2 ⟨_,hh,(mem_rpth _ _ _).2 (by
    rw [hp,List.getD_eq_getElem?_getD,List.getElem?_eq_getElem (show 0<(pathS p a).length by omega)]
    exact List.getElem_mem _)⟩)
   intro e0
   rw [e0] at hpt
   cases hpt
  have hbx:=boxL_of hne
  have hpts:∀ u∈endsL (segX p X),near1 u=true:=fun u hu=>by
   have hu:=(HVv.out.ends_pts hdd u).1 hu
   obtain ⟨d,hd,hu⟩:=List.mem_flatMap.1 hu
   rw [mem_rpth] at hu
   obtain ⟨a,ha,-,hp⟩:=HVv.out.pth_dart (hdd _ hd)
   rw [hp] at hu
   exact HVv.out.path_near ha hu
  have hby:(-2097152≤(boxL (endsL (segX p X))).y0∧(boxL (endsL (segX p X))).y0≤2097152)∧(-2097152≤(boxL (endsL (segX p X))).y1∧(boxL (endsL (segX p X))).y1≤2097152):=by
   obtain ⟨u,hu,e⟩:=hbx.y0
   obtain ⟨u',hu',e'⟩:=hbx.y1
   have n1:=hpts u hu
   have n2:=hpts u' hu'
   rw [near1_iff] at n1 n2
   omega
  have hel:0<(endsL (segX p X)).length:=List.length_pos_iff.2 hne
  obtain ⟨E,hE⟩:∃ E,endsL (segX p X)=E:=⟨_,rfl⟩
  rw [hE] at hmi hby hel
  obtain ⟨bx,hbxe⟩:∃ bx,boxL E=bx:=⟨_,rfl⟩
  rw [hbxe] at hmi hby
  have HMi:=Lib.hid hmi;have HE:=Lib.hid hE;have HBx:=Lib.hid hbxe
  have HMd:=Lib.hid (fun W (hW:Below w2.heap.size w2 W) y=>WMiddle_spec V p W ((HPv.out.mono HB3.out).mono hW) HVv.out gm f (HPm2.out.keep hW) L[i+1] X hX (HRo.out W hW) (HRi.out W hW) (HRc.out W hW) (HRa.out W hW) hcy hal y)
  have HSg:=Lib.hid (fun W B g k1 k2 hB h0 hw=>Mid_seg w2 gm p f HPm2.out HVv.out (svV L[i+1].ov) L[i+1].out (HRo.out w2 (bR w2)) (by rw [hout];exact hdd) B g (by rw [hout];omega) k1 k2 W hB (.slice none 0 0) h0 hw)
  rw [hout] at HSg
  have hrow:=HA2.out.sl
  obtain ⟨A2,c2,he,-,-,hRr⟩:=hrow
  injection he with q1 q2 q3
  subst q1 q3
  clear q2
  obtain ⟨bl,ol,hAe,hlb,c0,c1,cc2,c3⟩:=hRr.ad hlL
  generalize L[i+1]=x at *
  obtain ⟨tw,out,⟨oa,on,oc⟩,inn,⟨ia,in_,ic⟩,alo,⟨aa,an,ac⟩⟩:=x
  unfold svV at c1 cc2 c3 HMd HSg
  simp only at c0 c1 cc2 c3 HMd HSg
  subst hAe
  have kl:(i:Int)+1<((outX p).length:Int)+1:=by omega
  have k0:0≤(i:Int)+1:=by omega
  obtain ⟨nO,hnO⟩:∃ nO,(outX p).length=nO:=⟨_,rfl⟩
  rw [hnO] at kl ⊢
  clear hXe hout hcy hkey hal hmem hsgl hdd hmi hne hbx hpts hE hbxe hnO hRr HL HReg HQ HD hlL
  go_upto_region 8 with fail
  obtain ⟨W3,hW⟩:∃ W:World,W=w2.alloc (.cells #[.slice none 0 0] 46):=⟨_,rfl⟩
  have X11:Blk W3 w2.heap.size 46 #[.slice none 0 0]:=by rw [hW];exact Blk.made rfl _ _
  have hA:Below w2.heap.size w2 W3:=by rw [hW];exact bA (bR w2) _
  have HA3:=Lib.hid hA
  have HP0:=Lib.hid (show PtBox W3 W3.heap.size w2.heap.size [] (.slice none 0 0) from ⟨X11,Own.nil _ _ _ _ _⟩)
  have d1:=keepc hA c1
  have hl3:w2.heap.size≤W3.heap.size:=hA.size
  rw [← hW]
  clear hW hA X11
  obtain ⟨g11,h11⟩:∃ g,w2.heap.size=g:=⟨_,rfl⟩
  have hg11:w2.heap.size≤g11:=by omega
  rw [h11] at HP0 ⊢
  clear h11
  go_wp2_with fail
  refine (HSg.out W3 W3.heap.size g11 hl3 hg11 (Nat.le_refl _) HP0.out HA3.out).mono ?_
  rintro e w4 ⟨rfl,hmi4⟩
  obtain ⟨⟨vp,hpb⟩,-,hb4⟩:=hmi4
  rw [HE.out] at hpb
  obtain ⟨Ap,cp,hvp,-⟩:=hpb.own.sl
  subst hvp
  have X11:=hpb.box
  have hrb:=fun W (hW:Below w4.heap.size w4 W)=>RingBounds_spec _ E W (Sl.mono hpb.own.sl hW) hel
  rw [HBx.out] at hrb
  unfold boxC at hrb
  have HRb:=Lib.hid hrb;have HB4:=Lib.hid hb4
  clear hrb hpb hb4 HSg HP0 HA3 d1 HE HBx
  obtain ⟨X11l,X11a,-⟩:=X11.facts1
  go_wp2_with fail
  refine (HRb.out _ (bR w4)).mono ?_
  rintro e w5 ⟨rfl,hb5⟩
  obtain ⟨x0,y0,x1,y1⟩:=bx
  simp only at hby ⊢
  have HB5:=Lib.hid (bT HB4.out hb5)
  clear hb5 HB4 HRb X11 X11l X11a hel
  go_upto_region 10 with fail
  obtain ⟨W6,hW⟩:∃ W:World,W=w5.alloc (.cells #[.int .i64 x0,.int .i64 y0,.int .i64 x1,.int .i64 y1] 73):=⟨_,rfl⟩
  have X12:Blk W6 w5.heap.size 73 #[.int .i64 x0,.int .i64 y0,.int .i64 x1,.int .i64 y1]:=by rw [hW];exact Blk.made rfl _ _
  have hA:Below w2.heap.size w2 W6:=by rw [hW];exact bA HB5.out _
  have HB6:=Lib.hid hA
  have HX2:=Lib.hid (HX2c.out.keep hA);have HX4:=Lib.hid (HX4c.out.keep hA);have HX12:=Lib.hid X12
  replace c0:=keepc hA c0
  replace c1:=keepc hA c1
  replace cc2:=keepc hA cc2
  replace c3:=keepc hA c3
  replace hlb:=Nat.lt_of_lt_of_le hlb hA.size
  obtain ⟨g12,h12⟩:∃ g,w5.heap.size=g:=⟨_,rfl⟩
  rw [← hW]
  rw [h12] at X12 HX12 ⊢
  clear hW hA HX2c HX4c h12 HB5
  obtain ⟨X12l,X12a,X12b,X12c,X12d,-,-,-,-⟩:=X12.facts4
  have km:IntKind.i64.wrap (y0+y1)=y0+y1:=IntWalk.i64_in _ (by omega)
  go_upto_block 0 with fail
  obtain ⟨mid,hmid⟩:∃ mid,(y0+y1) / 2=mid:=⟨_,rfl⟩
  have hmb:(-2097153≤mid∧mid≤2097153):=by omega
  have HMid:=Lib.hid hmid
  simp only [hmid]
  clear hmid km X12 X12l X12a X12b X12c X12d
  have HCl:=Lib.hid c0;have HC1:=Lib.hid c1;have HC2:=Lib.hid cc2;have HC3:=Lib.hid c3
  clear c0 c1 cc2 c3
  go_wp2_with fail
  go_loopw [14,5] (fun d ok wr=>∃ D:Nat,d=.int .i64 D∧(∀ j,j<D→midD p (some X) y0 y1 mid j=none)∧ok=.bool false∧D≤4194310∧Below W6.heap.size W6 wr) (fun d _ _=>4194312-(intOf d).toNat)
  case atStart => exact ⟨0,rfl,fun j hj=>by omega,rfl,by omega,bR W6⟩
  case round =>
   obtain ⟨D,rfl,hno,rfl,hD,hbw⟩:=hrel
   obtain ⟨wo,rfl⟩:∃ wo:World,wo=wr:=⟨_,rfl⟩
   have HNo:=Lib.hid hno;have HBw:=Lib.hid hbw
   have X12:=HX12.out.keep hbw
   have k1:IntKind.i64.wrap (mid+D)=mid+D:=IntWalk.i64_in _ (by omega)
   have k2:IntKind.i64.wrap (mid-D)=mid-D:=IntWalk.i64_in _ (by omega)
   clear hno hbw
   try clear X12l
   try clear X12a
   try clear X12b
   try clear X12c
   try clear X12d
   obtain ⟨X12l,X12a,X12b,X12c,X12d,-,-,-,-⟩:=X12.facts4
   by_cases hc:mid+D≤y1∨y0≤mid-D
   ·
    have hDb:D≤4194308:=by omega
    go_upto_block 2 with fail
    all_goals
     clear X12 X12l X12a X12b X12c X12d
     go_wp2_with fail
     go_loopw [72,5] (fun j ok wr=>∃ J:Nat,J≤2∧j=.int .i64 J∧(1≤J→midRow p (some X) y0 y1 (mid+D)=none)∧(2≤J→midRow p (some X) y0 y1 (mid-D)=none)∧ok=.bool false∧Below W6.heap.size W6 wr) (fun j _ _=>2-(intOf j).toNat)
     case atStart => exact ⟨0,by omega,rfl,fun h=>by omega,fun h=>by omega,rfl,HBw.out⟩
     case round =>
      obtain ⟨J,hJ,rfl,hj1,hj2,rfl,hbv⟩:=hrel
      obtain ⟨wv,rfl⟩:∃ wv:World,wv=wr:=⟨_,rfl⟩
      have HJ1:=Lib.hid hj1;have HJ2:=Lib.hid hj2;have HBv:=Lib.hid hbv
      clear hj1 hj2 hbv
      by_cases hlt:J<2
      ·
       have hyy:∃ yy,(∀ W,(Instr.index 116 (.agg #[.int .i64 (mid+D),.int .i64 (mid-D)]) (.int .i64 J)).run Tryz.prog W=.ok (.int .i64 yy) W)∧(yy=mid+D∨yy=mid-D)∧(midRow p (some X) y0 y1 yy=none→(1≤J+1→midRow p (some X) y0 y1 (mid+D)=none)∧(2≤J+1→midRow p (some X) y0 y1 (mid-D)=none))∧∀ u,midRow p (some X) y0 y1 yy=some u→midD p (some X) y0 y1 mid D=some u:=by
        have:J=0∨J=1:=by omega
        rcases this with rfl | rfl
        · exact ⟨mid+D,fun W=>(run_ix2 _ _ W).1,.inl rfl,fun h=>⟨fun _=>h,fun h=>by omega⟩,fun u hu=>by unfold midD;rw [hu];rfl⟩
        · exact ⟨mid-D,fun W=>(run_ix2 _ _ W).2,.inr rfl,fun h=>⟨fun _=>HJ1.out (Nat.le_refl _),fun _=>h⟩,fun u hu=>by unfold midD;rw [HJ1.out (Nat.le_refl _),hu];rfl⟩
       obtain ⟨yy,hI,hyb,hyn,hys⟩:=hyy
       have HYn:=Lib.hid hyn;have HYs:=Lib.hid hys
       have hyb2:-6291465≤yy∧yy≤6291465:=by omega
       have X12:=HX12.out.keep HBv.out
       clear hyb hyn hys HJ1 HJ2
       try clear X12l
       try clear X12a
       try clear X12b
       try clear X12c
       try clear X12d
       obtain ⟨X12l,X12a,X12b,X12c,X12d,-,-,-,-⟩:=X12.facts4
       by_cases ho:yy<y0∨y1<yy
       ·
        have hr:=HYn.out (midRow_out p (some X) ho)
        have HR1:=Lib.hid hr
        clear hr HYn HYs
        go_wp2_with fail
        all_goals
         go_roundw
         case rel => exact ⟨J+1,by omega,by go_num,HR1.out.1,HR1.out.2,rfl,HBv.out⟩
         case measure => simp [intOf];omega
       ·
        have ho1:¬ yy<y0:=fun e=>ho (.inl e)
        have ho2:¬ y1<yy:=fun e=>ho (.inr e)
        have hri:=midRow_in p (some X) ho
        have hmd:=fun W (hW:Below wv.heap.size wv W)=>HMd.out W (bT HB6.out (bT HBv.out hW)) yy
        rw [HVe.out] at hmd
        unfold midRs at hmd
        rw [← hri] at hmd
        obtain ⟨res,hres⟩:∃ res,midRow p (some X) y0 y1 yy=res:=⟨_,rfl⟩
        rw [hres] at hmd
        have HRes:=Lib.hid hres
        have X2:=HX2.out.keep HBv.out
        have X4:=HX4.out.keep HBv.out
        have HX4v:=Lib.hid X4
        have c0:=keepc HBv.out HCl.out
        have c1:=keepc HBv.out HC1.out
        have c2:=keepc HBv.out HC2.out
        have c3:=keepc HBv.out HC3.out
        have hlv:=Nat.lt_of_lt_of_le hlb HBv.out.size
        have hbl:bl≠g4:=fun e=>by
         subst e
         rw [X4.cell] at c1
         generalize ol+(i+1)*4+1=k at c1
         match k,c1 with
         | 0,h=>simp at h
         | 1,h=>simp at h
         | k+2,h=>simp at h
        have hbl2:=hbl.symm
        clear hri hres ho
        try clear X2l
        try clear X2a
        try clear X2b
        try clear X2c
        obtain ⟨X2l,X2a,X2b,X2c,-,-,-⟩:=X2.facts3
        cases res with
        | none =>
         unfold optPt at hmd
         have HMd2:=Lib.hid hmd
         have hr:=HYn.out HRes.out
         have HR1:=Lib.hid hr
         clear hmd hr HYn HYs
         go_upto_region 18 with fail
         refine rg_start (SinceX wv (some g4)) (.run 7 0 0 (.call 7 255 (.run 3 8 255 (.call 11 4095 (.take 12 8191 (.done)))))) (by kernel_rfl) (gD (gR _ _)) (by kernel_rfl) (by kernel_rfl) (Nat.le_of_ble_eq_true (by kernel_rfl)) ?_
         intro opsR QR Hops HQrg hS
         replace X4:=X4.drew
         iterate 7
          apply rg_pX;exact Hops;exact rfl;exact hS;exact rfl
          · intro _ hqc;go_simp;try rfl
          try simp only [pu]
         refine rg_call (i:=7) (get_of Hops rfl) (fun K hK=>?_)
         have HSrg:=Lib.hid hS;clear hS
         refine rg_run (wanted_plain rfl) ?_
         go_simp
         refine (HMd2.out _ (bD (bR wv))).mono ?_
         rintro e wr1 ⟨rfl,hbr1⟩
         have hS:SinceX wv (some g4) wr1:=gB (w0:=wv) HSrg.out hbr1
         clear HSrg
         try replace X4:=X4.keep hbr1
         refine hK.out _ _ hS (fun _=>?_)
         clear hK K
         try simp only [pu]
         iterate 3
          apply rg_pX;exact Hops;exact rfl;exact hS;exact rfl
          · intro _ hqc;go_simp;try rfl
          try simp only [pu]
         refine rg_call (i:=11) (get_of Hops rfl) (fun K hK=>?_)
         have HSrg:=Lib.hid hS;clear hS
         refine rg_run (wanted_plain rfl) ?_
         obtain ⟨X4l,X4a,X4b,X4fa,X4fb⟩:=X4.facts2
         go_simp
         refine hK.out _ _ (by first | exact gS HSrg.out _ _ | (unfold SinceX;have hS9:World.grownBy _ _ _:=HSrg.out;repeat (first | with_reducible assumption | with_reducible exact World.grownBy.refl _ _ | with_reducible refine gS ?_ _ _ | with_reducible refine gD ?_ | with_reducible refine gA ?_ _))) (fun hS=>?_)
         clear hK K HSrg
         try simp only [pu]
         apply rg_pX;exact Hops;exact rfl;exact hS;exact rfl
         · intro _ hqc;go_simp;try rfl
         try simp only [pu]
         refine rg_done ?_
         refine HQrg.down _ _ ?_
         have hB:wv.grownBy _ (some g4):=hS
         clear hS HQrg Hops
         rw [setCell_same X4 (i:=0) (v:=.int .i64 0) rfl,setCell_same X4 (i:=1) (v:=.int .i64 0) rfl]
         have HBz:=Lib.hid (bT HBv.out (bT (bD (bR wv)) hbr1))
         clear hB
         go_wp2_with fail
         go_roundw
         case rel => exact ⟨J+1,by omega,by go_num,HR1.out.1,HR1.out.2,rfl,HBz.out⟩
         case measure => simp [intOf];omega
        | some u =>
         unfold optPt at hmd
         have HMd2:=Lib.hid hmd
         have hq:q=some u:=by
          rw [HMi.out]
          exact midB_some p (some X) (D:=D) (by rw [HMid.out];exact HNo.out) (by rw [HMid.out];exact HYs.out u HRes.out)
         have HQn:=Lib.hid hq
         clear hmd hq HYn HYs
         go_upto_region 18 with fail
         refine rg_start (SinceX wv (some g4)) (.run 7 0 0 (.call 7 255 (.run 3 8 255 (.call 11 4095 (.take 12 8191 (.done)))))) (by kernel_rfl) (gD (gR _ _)) (by kernel_rfl) (by kernel_rfl) (Nat.le_of_ble_eq_true (by kernel_rfl)) ?_
         intro opsR QR Hops HQrg hS
         replace X4:=X4.drew
         iterate 7
          apply rg_pX;exact Hops;exact rfl;exact hS;exact rfl
          · intro _ hqc;go_simp;try rfl
          try simp only [pu]
         refine rg_call (i:=7) (get_of Hops rfl) (fun K hK=>?_)
         have HSrg:=Lib.hid hS;clear hS
         refine rg_run (wanted_plain rfl) ?_
         go_simp
         refine (HMd2.out _ (bD (bR wv))).mono ?_
         rintro e wr1 ⟨rfl,hbr1⟩
         have hS:SinceX wv (some g4) wr1:=gB (w0:=wv) HSrg.out hbr1
         clear HSrg
         try replace X4:=X4.keep hbr1
         refine hK.out _ _ hS (fun _=>?_)
         clear hK K
         try simp only [pu]
         iterate 3
          apply rg_pX;exact Hops;exact rfl;exact hS;exact rfl
          · intro _ hqc;go_simp;try rfl
          try simp only [pu]
         refine rg_call (i:=11) (get_of Hops rfl) (fun K hK=>?_)
         have HSrg:=Lib.hid hS;clear hS
         refine rg_run (wanted_plain rfl) ?_
         obtain ⟨X4l,X4a,X4b,X4fa,X4fb⟩:=X4.facts2
         go_simp
         refine hK.out _ _ (by first | exact gS HSrg.out _ _ | (unfold SinceX;have hS9:World.grownBy _ _ _:=HSrg.out;repeat (first | with_reducible assumption | with_reducible exact World.grownBy.refl _ _ | with_reducible refine gS ?_ _ _ | with_reducible refine gD ?_ | with_reducible refine gA ?_ _))) (fun hS=>?_)
         clear hK K HSrg
         try simp only [pu]
         apply rg_pX;exact Hops;exact rfl;exact hS;exact rfl
         · intro _ hqc;go_simp;try rfl
         try simp only [pu]
         refine rg_done ?_
         refine HQrg.down _ _ ?_
         have hB:wv.grownBy _ (some g4):=hS
         clear hS HQrg Hops
         have HBz:=Lib.hid (bT HBv.out (bT (bD (bR wv)) hbr1))
         clear hB X4l X4a X4b X4fa X4fb
         have X4n:=Blk.put2 X4 (x0:=.int .i64 u.x) (x1:=.int .i64 u.y)
         obtain ⟨wz,hwz⟩:∃ wz:World,wz=(wr1.setCell ⟨g4,0,none⟩ (.int .i64 u.x)).setCell ⟨g4,1,none⟩ (.int .i64 u.y):=⟨_,rfl⟩
         have HBy:=Lib.hid (show Below w.heap.size w wz by rw [hwz];exact bS (p:=⟨g4,1,none⟩) (bS (p:=⟨g4,0,none⟩) (bT HB3.out (bT HB6.out HBz.out)) hg4 _) hg4 _)
         rw [← hwz] at X4n ⊢
         clear hwz X4
         have HX4n:=Lib.hid X4n
         obtain ⟨X4l,X4a,X4b,X4fa,X4fb⟩:=X4n.facts2
         go_wp2_with fail
         refine res_cell_tmp (t:=39) (g:=g4) (cs:=#[.int .i64 u.x,.int .i64 u.y]) rfl struct_pt rfl rfl (Blk.put2 HX4n.out) ⟨by rw [HQn.out];unfold optPt;congr 1,bS (p:=⟨g4,1,none⟩) (bS (p:=⟨g4,0,none⟩) HBy.out hg4 _) hg4 _⟩
      ·
       obtain rfl:J=2:=by omega
       have hd:=midD p (some X) y0 y1 mid D
       have hn:midD p (some X) y0 y1 mid D=none:=by unfold midD;rw [HJ1.out (by omega),HJ2.out (by omega)];rfl
       have HN2:=Lib.hid (show ∀ j,j<D+1→midD p (some X) y0 y1 mid j=none from fun j hj=>by
        by_cases e:j=D
        · subst e;exact hn
        · exact HNo.out j (by omega))
       clear hn hd
       go_wp2_with fail
       go_roundw
       case rel => exact ⟨D+1,by go_num,HN2.out,rfl,by omega,HBv.out⟩
       case measure => simp [intOf];omega
   ·
    have hc1:¬ mid+D≤y1:=fun e=>hc (.inl e)
    have hc2:¬ y0≤mid-D:=fun e=>hc (.inr e)
    have hq:q=none:=by
     rw [HMi.out]
     exact midB_none p (some X) (D:=D) (by rw [HMid.out];exact HNo.out) (by rw [HMid.out];omega) (by rw [HMid.out];omega)
    have HQn:=Lib.hid hq
    have X4:=HX4.out.keep HBw.out
    have HX4n:=Lib.hid X4
    clear hq hc
    try clear X4l
    try clear X4a
    try clear X4b
    try clear X4fa
    try clear X4fb
    obtain ⟨X4l,X4a,X4b,X4fa,X4fb⟩:=X4.facts2
    go_wp2_with fail
    refine res_cell_tmp (t:=39) (g:=g4) (cs:=#[.int .i64 0,.int .i64 0]) rfl struct_pt rfl rfl (Blk.put2 HX4n.out) ⟨by rw [HQn.out];rfl,bS (p:=⟨g4,1,none⟩) (bS (p:=⟨g4,0,none⟩) (bT HB3.out (bT HB6.out HBw.out)) hg4 _) hg4 _⟩
end Go.Proofs.YtialfdomhoojiaaGreat
namespace Go.Proofs.YtialfdomhoojiaaGreat
open Go.RowKit

set_option maxRecDepth 100000 in
set_option maxHeartbeats 8000000 in
theorem RSame16_true (v u:Value) (L L':List AD) (w:World) (hl:AdF w v L) (hl':AdF w u L') (he:L.map adG=L'.map adG):Calls Tryz.prog 20 #[v,u] w fun e w'=>e=.returned (.bool true)∧Below w.heap.size w w':=by
 have HS:=Lib.hid (fun (va ub:Value) (l:List Int) W (h:Ints W va l) (h':Ints W ub l)=>show Calls Tryz.prog 55 #[va,ub] W fun e w'=>e=.returned (.bool true)∧Below W.heap.size W w' from by
  have t:=Same04_spec va ub l l W h h'
  rw [decide_eq_true rfl] at t
  exact t)
 have hll:L.length=L'.length:=by simpa using congrArg List.length he
 have HAt:=Lib.hid (fun k (h1:k<L.length) (h2:k<L'.length)=>show adG L[k]=adG L'[k] from by
  have e1:(L.map adG)[k]'(by simpa using h1)=adG L[k]:=by rw [List.getElem_map]
  have e2:(L'.map adG)[k]'(by simpa using h2)=adG L'[k]:=by rw [List.getElem_map]
  rw [← e1,← e2]
  congr 1)
 have HL:=Lib.hid hl;have HL':=Lib.hid hl'
 obtain ⟨A,c,rfl,h1,h2,-⟩:=hl.sl
 obtain ⟨A',c',rfl,h1',h2',-⟩:=hl'.sl
 unfold maxLen at h2
 obtain ⟨n,hn⟩:∃ n,L.length=n:=⟨_,rfl⟩
 have hn':L'.length=n:=hll.symm.trans hn
 have HN:=Lib.hid hn;have HN':=Lib.hid hn'
 have hnb:n≤9223372036854775807:=by omega
 rw [hn,hn']
 clear hl hl' he hll hn hn' h1 h2 h1' h2'
 go_enter Tryz.func20,Tryz.ntmps20
 go_wp2_with fail
 go_loopw [5] (fun i wr=>∃ k:Nat,k≤n∧i=.int .i64 k∧Below w.heap.size w wr) (fun i _=>n-(intOf i).toNat)
 case atStart => exact ⟨0,Nat.zero_le _,rfl,bR w⟩
 case round =>
  obtain ⟨k,hk,rfl,hb⟩:=hrel
  obtain ⟨wo,rfl⟩:∃ wo:World,wo=wr:=⟨_,rfl⟩
  have Hb:=Lib.hid hb
  clear hb
  by_cases hlt:k<n
  ·
   have k1:k<L.length:=by rw [HN.out];exact hlt
   have k2:k<L'.length:=by rw [HN'.out];exact hlt
   obtain ⟨A1,c1,e1,-,-,hR⟩:=(HL.out.mono Hb.out).sl
   obtain ⟨A2,c2,e2,-,-,hR'⟩:=(HL'.out.mono Hb.out).sl
   injection e1 with q1 q2 q3
   subst q1 q3
   clear q2
   injection e2 with q1 q2 q3
   subst q1 q3
   clear q2
   obtain ⟨b,o,hA,hlb,c0,c1,c2,c3⟩:=hR.ad k1
   obtain ⟨b',o',hA',hlb',d0,d1,d2,d3⟩:=hR'.ad k2
   subst hA hA'
   have hg:=HAt.out k k1 k2
   have m1:=List.getElem_mem k1
   have m2:=List.getElem_mem k2
   have Ho:=Lib.hid (fun W (hW:Below wo.heap.size wo W)=>((HL.out.mono (bT Hb.out hW)).out _ m1));have Ho':=Lib.hid (fun W (hW:Below wo.heap.size wo W)=>((HL'.out.mono (bT Hb.out hW)).out _ m2))
   have Hi:=Lib.hid (fun W (hW:Below wo.heap.size wo W)=>((HL.out.mono (bT Hb.out hW)).inn _ m1));have Hi':=Lib.hid (fun W (hW:Below wo.heap.size wo W)=>((HL'.out.mono (bT Hb.out hW)).inn _ m2))
   have Hc:=Lib.hid (fun W (hW:Below wo.heap.size wo W)=>((HL.out.mono (bT Hb.out hW)).cyc _ m1));have Hc':=Lib.hid (fun W (hW:Below wo.heap.size wo W)=>((HL'.out.mono (bT Hb.out hW)).cyc _ m2))
   have Ha:=Lib.hid (fun W (hW:Below wo.heap.size wo W)=>((HL.out.mono (bT Hb.out hW)).alo _ m1));have Ha':=Lib.hid (fun W (hW:Below wo.heap.size wo W)=>((HL'.out.mono (bT Hb.out hW)).alo _ m2))
   generalize L[k]=x at *
   generalize L'[k]=x' at *
   obtain ⟨tw,out,⟨oa,on,oc⟩,inn,⟨ia,in_,ic⟩,alo,⟨aa,an,ac⟩⟩:=x
   obtain ⟨tw',out',⟨oa',on',oc'⟩,inn',⟨ia',in_',ic'⟩,alo',⟨aa',an',ac'⟩⟩:=x'
   unfold adG at hg
   injection hg with g1 g2 g3 g4
   simp only at g1 g2 g3 g4
   subst g1 g2 g4
   unfold svV at c1 c2 c3 d1 d2 d3 Ho Ho' Hi Hi' Ha Ha'
   simp only at c0 c1 c2 c3 d0 d1 d2 d3 Ho Ho' Hi Hi' Ha Ha' Hc Hc'
   obtain ⟨_,_,e1,hi1,hi2,-⟩:=Hi.out wo (bR wo)
   have hib:inn.length≤9223372036854775807:=by unfold maxLen at hi2;omega
   clear hi1 hi2
   obtain ⟨_,_,e2,-,-,-⟩:=Hi'.out wo (bR wo)
   injection e1 with q1 q2 q3
   subst q1 q3
   injection e2 with q1 q2' q3
   subst q1 q3
   have hil:inn'.length=inn.length:=by simpa using (congrArg List.length g3).symm
   rw [hil] at q2'
   subst q2 q2'
   have HIl:=Lib.hid hil;have HG:=Lib.hid g3
   have HSo:=Lib.hid (fun W (hW:Below wo.heap.size wo W)=>HS.out _ _ out W (Ho.out W hW) (Ho'.out W hW))
   have HSa:=Lib.hid (fun W (hW:Below wo.heap.size wo W)=>HS.out _ _ alo W (Ha.out W hW) (Ha'.out W hW))
   have HC0:=Lib.hid c2;have HD0:=Lib.hid d2
   have i1:0≤(k:Int):=by omega
   have i2:(k:Int)<n:=by omega
   have hnl:((inn.length:Int) != inn.length)=false:=by simp
   have htt:(tw != tw)=false:=by simp
   clear k1 k2 hR hR' m1 m2 g3 hil
   go_upto_region 6 with fail
   refine rg_start (Since wo) (.run 22 0 0 (.call 22 8388607 (.run 13 23 8388607 (.call 36 137438953471 (.run 17 37 137438953471 (.done)))))) (by kernel_rfl) (bD (bR _)) (by kernel_rfl) (by kernel_rfl) (Nat.le_of_ble_eq_true (by kernel_rfl)) ?_
   intro opsR QR Hops HQrg hS
   iterate 12
    apply rg_p;exact Hops;exact rfl;exact hS;exact rfl
    · intro _ hqc;go_simp;try rfl
    try simp only [pu]
   iterate 10
    apply rg_g;exact Hops;exact rfl;exact hS;iterate 4 exact rfl
    · intro _ hqc;go_simp;try rfl
    try simp only [pu]
   refine rg_call (i:=22) (get_of Hops rfl) (fun K hK=>?_)
   have HSrg:=Lib.hid hS;clear hS
   refine rg_run (wanted_yes rfl (get_of Hops rfl) rfl rfl) ?_
   go_simp
   refine (HSo.out _ (bT (bD (bR wo)) (bR _))).mono ?_
   rintro e wr1 ⟨rfl,hbr1⟩
   have hS:Since wo wr1:=bT (w:=wo) HSrg.out hbr1
   clear HSrg
   refine hK.out _ _ hS (fun _=>?_)
   clear hK K
   try simp only [pu]
   apply rg_g;exact Hops;exact rfl;exact hS;iterate 4 exact rfl
   · intro _ hqc;go_simp;try rfl
   try simp only [pu]
   iterate 2
    apply rg_p;exact Hops;exact rfl;exact hS;exact rfl
    · intro _ hqc;go_simp;try rfl
    try simp only [pu]
   iterate 10
    apply rg_g;exact Hops;exact rfl;exact hS;iterate 4 exact rfl
    · intro _ hqc;go_simp;try rfl
    try simp only [pu]
   refine rg_call (i:=36) (get_of Hops rfl) (fun K hK=>?_)
   have HSrg:=Lib.hid hS;clear hS
   refine rg_run (wanted_yes rfl (get_of Hops rfl) rfl rfl) ?_
   go_simp
   refine (HSa.out _ (bT (bD (bR wo)) hbr1)).mono ?_
   rintro e wr2 ⟨rfl,hbr2⟩
   have hS:Since wo wr2:=bT (w:=wo) HSrg.out hbr2
   clear HSrg
   refine hK.out _ _ hS (fun _=>?_)
   clear hK K
   try simp only [pu]
   apply rg_g;exact Hops;exact rfl;exact hS;iterate 4 exact rfl
   · intro _ hqc;go_simp;try rfl
   try simp only [pu]
   iterate 2
    apply rg_p;exact Hops;exact rfl;exact hS;exact rfl
    · intro _ hqc;go_simp;try rfl
    try simp only [pu]
   iterate 13
    apply rg_g;exact Hops;exact rfl;exact hS;iterate 4 exact rfl
    · intro _ hqc;go_simp;try rfl
    try simp only [pu]
   apply rg_p;exact Hops;exact rfl;exact hS;exact rfl
   · intro _ hqc;go_simp;try rfl
   try simp only [pu]
   refine rg_done ?_
   refine HQrg.down _ _ ?_
   have hB:Below wo.heap.size wo wr2:=hS
   clear hS HQrg Hops
   skip
   have HB2:=Lib.hid hB
   clear hB c0 c1 c2 c3 d0 d1 d2 d3 HSo HSa Ho Ho' Ha Ha' hnl htt hbr1 hbr2
   replace c2:=keepc HB2.out HC0.out
   replace d2:=keepc HB2.out HD0.out
   have hlw:b<wr2.heap.size:=Nat.lt_of_lt_of_le hlb HB2.out.size
   have hlw':b'<wr2.heap.size:=Nat.lt_of_lt_of_le hlb' HB2.out.size
   go_upto_block 2 with fail
   go_wp2_with fail
   go_loopw [6] (fun j wr=>∃ J:Nat,J≤inn.length∧j=.int .i64 J∧Below wo.heap.size wo wr) (fun j _=>inn.length-(intOf j).toNat)
   case atStart => exact ⟨0,Nat.zero_le _,rfl,HB2.out⟩
   case round =>
    obtain ⟨J,hJ,rfl,hbv⟩:=hrel
    obtain ⟨wv,rfl⟩:∃ wv:World,wv=wr:=⟨_,rfl⟩
    have Hv:=Lib.hid hbv
    replace c2:=keepc hbv HC0.out
    replace d2:=keepc hbv HD0.out
    replace hlw:=Nat.lt_of_lt_of_le hlb hbv.size
    replace hlw':=Nat.lt_of_lt_of_le hlb' hbv.size
    clear hbv HB2
    by_cases hj:J<inn.length
    ·
     have hj':J<inn'.length:=by rw [HIl.out];exact hj
     obtain ⟨A3,c3,e1,h13,-,hRi⟩:=Hi.out wv Hv.out
     obtain ⟨A4,c4,e2,h14,-,hRi'⟩:=Hi'.out wv Hv.out
     rw [HIl.out] at e2
     injection e1 with q1 _ q3
     injection e2 with q1' _ q3'
     subst q1 q3 q1' q3'
     obtain ⟨b3,o3,hA,hl3,e3⟩:=hRi.cy hj
     obtain ⟨b4,o4,hA',hl4,e4⟩:=hRi'.cy hj'
     subst hA hA'
     have hxe:inn[J].1=inn'[J].1:=by
      have x1:(inn.map (·.1))[J]'(by simpa using hj)=inn[J].1:=by rw [List.getElem_map]
      have x2:(inn'.map (·.1))[J]'(by simpa using hj')=inn'[J].1:=by rw [List.getElem_map]
      rw [← x1,← x2]
      have hg:=HG.out
      congr 1
     have HSi:=Lib.hid (fun W (hW:Below wv.heap.size wv W)=>HS.out _ _ inn[J].1 W (Hc.out W (bT Hv.out hW) _ (List.getElem_mem hj)) (by rw [hxe];exact Hc'.out W (bT Hv.out hW) _ (List.getElem_mem hj')))
     clear hxe hRi hRi'
     generalize inn[J]=z at *
     generalize inn'[J]=z' at *
     clear hj'
     obtain ⟨zx,⟨za,zn,zc⟩⟩:=z
     obtain ⟨zx',⟨za',zn',zc'⟩⟩:=z'
     unfold svV at HSi
     simp only at e3 e4 HSi
     have i3:0≤(J:Int):=by omega
     have i4:(J:Int)<inn.length:=by omega
     go_upto_region 11 with fail
     refine rg_start (Since wv) (.run 16 0 0 (.call 16 131071 (.take 17 262143 (.done)))) (by kernel_rfl) (bD (bR _)) (by kernel_rfl) (by kernel_rfl) (Nat.le_of_ble_eq_true (by kernel_rfl)) ?_
     intro opsR QR Hops HQrg hS
     iterate 16
      apply rg_p;exact Hops;exact rfl;exact hS;exact rfl
      · intro _ hqc;go_simp;try rfl
      try simp only [pu]
     refine rg_call (i:=16) (get_of Hops rfl) (fun K hK=>?_)
     have HSrg:=Lib.hid hS;clear hS
     refine rg_run (wanted_plain rfl) ?_
     go_simp
     refine (HSi.out _ (bD (bR wv))).mono ?_
     rintro e wr1 ⟨rfl,hbr1⟩
     have hS:Since wv wr1:=bT (w:=wv) HSrg.out hbr1
     clear HSrg
     refine hK.out _ _ hS (fun _=>?_)
     clear hK K
     try simp only [pu]
     apply rg_p;exact Hops;exact rfl;exact hS;exact rfl
     · intro _ hqc;go_simp;try rfl
     try simp only [pu]
     refine rg_done ?_
     refine HQrg.down _ _ ?_
     have hB:Below wv.heap.size wv wr1:=hS
     clear hS HQrg Hops
     go_wp2_with fail
     go_roundw
     case rel => exact ⟨J+1,by omega,by go_num,bT Hv.out hB⟩
     case measure => simp [intOf];omega
    ·
     obtain rfl:J=inn.length:=by omega
     go_wp2_with fail
     go_roundw
     case rel => exact ⟨k+1,by omega,by go_num,bT Hb.out Hv.out⟩
     case measure => simp [intOf];omega
  ·
   obtain rfl:k=n:=by omega
   go_wp2_with fail
   go_ret
   exact ⟨rfl,Hb.out⟩
end Go.Proofs.YtialfdomhoojiaaGreat
namespace Go.Proofs.YtialfdomhoojiaaGreat
open Go.RowKit

def exVia:List Pt:=[⟨10,0⟩,⟨10,10⟩,⟨0,10⟩]
def exP:Pl:=⟨[⟨1,⟨0,0⟩⟩],[⟨1,1,1,exVia,1,0⟩],[1]⟩
def pl0:Pl:=⟨[],[],[]⟩
def exV (gn ga gf:Nat):Value:=.agg #[.slice (some ⟨gn,0,none⟩) 1 1,.slice (some ⟨ga,0,none⟩) 1 1,.slice (some ⟨gf,0,none⟩) 1 1]
def exN:Array Value:=#[.int .i64 1,.int .i64 0,.int .i64 0]
def exVs:Array Value:=#[.int .i64 10,.int .i64 0,.int .i64 10,.int .i64 10,.int .i64 0,.int .i64 10]
def exAr (gv nv cv:Nat) (left:Int):Array Value:=#[.int .i64 1,.int .i64 1,.int .i64 1,.slice (some ⟨gv,0,none⟩) nv cv,.int .i64 left,.int .i64 0]
def RetEx (w:World) (e:Ending) (w':World):Prop :=
 ∃ gn gv ga gf,e=.returned (exV gn ga gf)∧Below w.heap.size w w'∧(w.heap.size≤gn∧w.heap.size≤gv∧w.heap.size≤ga∧w.heap.size≤gf) ∧
  Blk w' gn 45 exN∧Blk w' gv 39 exVs∧Blk w' ga 50 (exAr gv 3 3 1)∧Blk w' gf 3 #[.int .i64 1]

theorem PlV.blocks {w:World} {vn va vf:Value} {p:Pl} {al:List (Ar×Value)} (hp:p.arcs=al.map (·.1)) (hn:Nds w vn p.nodes) (ha:Sl w va al.length (al.flatMap arC)) (hv:Vias w al) (hf:Ints w vf p.faces):PlV w (.agg #[vn,va,vf]) p :=
 ⟨vn,va,vf,al,rfl,hp,hn,⟨ha,hv⟩,hf⟩
theorem PlV.zero (w:World):PlV w (.agg #[.slice none 0 0,.slice none 0 0,.slice none 0 0]) pl0 :=
 PlV.blocks (al:=[]) rfl (Sl.nil w) (Sl.nil w) (fun k hk=>by simp at hk) (Sl.nil w)
theorem Sl.pre {w:World} {g n c:Nat} {t:TypeId} {cs:Array Value} {xs:List Value} (h:Blk w g t cs) (hx:∀ (j:Nat) (v:Value),xs[j]? = some v→cs[j]? = some v) (hn:n≤c) (hc:c≤maxLen):Sl w (.slice (some ⟨g,0,none⟩) n c) n xs :=
 ⟨_,c,rfl,hn,hc,fun _=>⟨g,0,rfl,h.lt,fun j v hj=>by rw [h.cell,Nat.zero_add];exact hx j v hj⟩⟩
theorem vias_one {w:World} {a:Ar} {u:Value} (h:Pts w u a.via):Vias w [(a,u)]:=fun k hk=>by
 have:k=0:=by simpa using hk
 subst this
 exact h
theorem PlV.ex {w:World} {vn:Value} {l:List Nd} {a v f n c:Nat} {left:Int} {via:List Pt} (hn:Nds w vn l) (ha:Blk w a 50 (exAr v n c left)) (hv:Pts w (.slice (some ⟨v,0,none⟩) n c) via) (hf:Blk w f 3 #[.int .i64 1]) :
  PlV w (.agg #[vn,.slice (some ⟨a,0,none⟩) 1 1,.slice (some ⟨f,0,none⟩) 1 1]) ⟨l,[⟨1,1,1,via,left,0⟩],[1]⟩ :=
 PlV.blocks (al:=[(⟨1,1,1,via,left,0⟩,.slice (some ⟨v,0,none⟩) n c)]) rfl hn (Sl.lit (n:=1) ha rfl (le_maxLen (by omega))) (vias_one hv) (Sl.lit (n:=1) hf rfl (le_maxLen (by omega)))
theorem exN_nds {w:World} {n:Nat} (h:Blk w n 45 exN):Nds w (.slice (some ⟨n,0,none⟩) 1 1) [⟨1,⟨0,0⟩⟩]:=Sl.lit (n:=1) h rfl (le_maxLen (by omega))
theorem exVs_pts {w:World} {v:Nat} (h:Blk w v 39 exVs):Pts w (.slice (some ⟨v,0,none⟩) 3 3) exVia:=Sl.lit (n:=3) h rfl (le_maxLen (by omega))
end Go.Proofs.YtialfdomhoojiaaGreat
namespace Go.Proofs.YtialfdomhoojiaaGreat
open Go.RowKit

def q1P:Pl:=⟨[⟨1,⟨0,0⟩⟩,⟨2,⟨5,5⟩⟩],[⟨1,1,1,exVia,1,0⟩],[1]⟩
def q2P:Pl:=⟨[⟨1,⟨0,0⟩⟩,⟨2,⟨5,5⟩⟩],[⟨1,1,1,exVia,0,0⟩],[1]⟩
theorem aw_c1:rchkS exP=0:=by decide +kernel
theorem aw_rg:rgsO exP (sortK (outX exP))=[⟨0,[],[[-1]],[]⟩,⟨1,[1],[],[]⟩]:=by kernel_rfl
theorem aw_l1:locS exP ⟨5,5⟩=(0,1,0):=by decide +kernel
theorem aw_l2:locS exP ⟨10,5⟩=(2,1,0):=by decide +kernel
theorem aw_m1:midP exP 1=some ⟨5,5⟩:=by kernel_rfl
theorem aw_c2:rchkS q1P=0:=by decide +kernel
theorem aw_m2:midP q1P 1=some ⟨2,5⟩:=by kernel_rfl
theorem aw_c3:rchkS q2P=12:=by decide +kernel
theorem aw_z:checkS (bareP q2P)=0:=by decide +kernel
theorem aw_o:(outX (bareP q2P)).length=1:=by decide +kernel
theorem aw_lb:labP q2P=q1P:=by kernel_rfl

set_option maxHeartbeats 1000000 in
theorem square16_spec (w:World):Calls Tryz.prog 48 #[] w (RetEx w):=by
 go_enter Tryz.func48,Tryz.ntmps48
 go_wp2_with fail
 refine res_cell (t:=26) (g:=w.heap.size) (cs:=#[.slice (some ⟨w.heap.size+1,0,none⟩) 1 1,.slice (some ⟨w.heap.size+1+1+1,0,none⟩) 1 1,.slice (some ⟨w.heap.size+1+1+1+1,0,none⟩) 1 1]) rfl struct_pl rfl rfl ?_ ⟨w.heap.size+1,w.heap.size+1+1,w.heap.size+1+1+1,w.heap.size+1+1+1+1,rfl,?_,by omega,?_,?_,?_,?_⟩
 · exact ((((Blk.made rfl _ _).alloc _).alloc _).alloc _).alloc _
 · exact bA (bA (bA (bA (bA (bR w) _) _) _) _) _
 · exact (((Blk.made (by simp) _ _).alloc _).alloc _).alloc _
 · exact ((Blk.made (by simp) _ _).alloc _).alloc _
 · exact (Blk.made (by simp) _ _).alloc _
 · exact Blk.made (by simp) _ _
end Go.Proofs.YtialfdomhoojiaaGreat
namespace Go.Proofs.YtialfdomhoojiaaGreat
open Go.RowKit

theorem Own.of_blk {α:Type} {w:World} {g n:Nat} {e:TypeId} {cs:Array Value} {base size:Nat} {f:α→List Value} {l:List α} (h:Blk w g e cs) (hb:base≤g) (hn:n=l.length) (hl:(l.flatMap f).length=l.length*size) (hx:cs.toList=l.flatMap f) (hm:n≤maxLen):Own w base e size f (.slice (some ⟨g,0,none⟩) n n) l:=by
 subst hn
 unfold Own
 have hs:cs.size=l.length*size:=by rw [← hl,← hx];simp
 exact ⟨hl,.inr ⟨g,l.length,cs,rfl,hb,h,Nat.le_refl _,hm,hs,by rw [hx,← hl];exact List.take_length⟩⟩

end Go.Proofs.YtialfdomhoojiaaGreat
namespace Go.Proofs.YtialfdomhoojiaaGreat
open Go.RowKit

def lit16 (w:World):World:=(((w.alloc (.cells #[.int .i64 (-1)] 3)).alloc (.cells #[.slice (some ⟨w.heap.size,0,none⟩) 1 1] 24)).alloc (.cells #[.int .i64 1] 3)).alloc (.cells #[.int .i64 0,.slice none 0 0,.slice (some ⟨w.heap.size+1,0,none⟩) 1 1,.slice none 0 0,.int .i64 1,.slice (some ⟨w.heap.size+1+1,0,none⟩) 1 1,.slice none 0 0,.slice none 0 0] 62)
def litA (w:World):List AD:=[⟨0,[],sv0,[([-1],⟨some ⟨w.heap.size,0,none⟩,1,1⟩)],⟨some ⟨w.heap.size+1,0,none⟩,1,1⟩,[],sv0⟩,⟨1,[1],⟨some ⟨w.heap.size+1+1,0,none⟩,1,1⟩,[],sv0,[],sv0⟩]
theorem lit16_below (w:World):Below w.heap.size w (lit16 w):=bA (bA (bA (bA (bR w) _) _) _) _
theorem lit16_read (w:World):AdF (lit16 w) (.slice (some ⟨w.heap.size+1+1+1,0,none⟩) 2 2) (litA w):=by
 refine ⟨Sl.lit (n:=2) (Blk.made (by simp) _ _) rfl (le_maxLen (by omega)),fun x hx=>?_,fun x hx=>?_,fun x hx c hc=>?_,fun x hx=>?_⟩
 ·
  simp only [litA,List.mem_cons,List.not_mem_nil,or_false] at hx
  rcases hx with rfl | rfl
  · exact Sl.nil _
  · exact Sl.lit (n:=1) ((Blk.made (by simp) _ _).alloc _) rfl (le_maxLen (by omega))
 ·
  simp only [litA,List.mem_cons,List.not_mem_nil,or_false] at hx
  rcases hx with rfl | rfl
  · exact Sl.lit (n:=1) (((Blk.made (by simp) _ _).alloc _).alloc _) rfl (le_maxLen (by omega))
  · exact Sl.nil _
 ·
  simp only [litA,List.mem_cons,List.not_mem_nil,or_false] at hx
  rcases hx with rfl | rfl
  ·
   simp only [List.mem_cons,List.not_mem_nil,or_false] at hc
   subst hc
   exact Sl.lit (n:=1) ((((Blk.made rfl _ _).alloc _).alloc _).alloc _) rfl (le_maxLen (by omega))
  · cases hc
 ·
  simp only [litA,List.mem_cons,List.not_mem_nil,or_false] at hx
  rcases hx with rfl | rfl
  · exact Sl.nil _
  · exact Sl.nil _
set_option maxRecDepth 100000 in
set_option maxHeartbeats 8000000 in
theorem awake16_spec (w:World):Calls Tryz.prog 16 #[] w fun e w'=>e=.returned (.bool true)∧Below w.heap.size w w':=by
 have HE:=Lib.hid square16_spec
 go_enter Tryz.func16,Tryz.ntmps16
 go_wp2_with fail
 refine (HE.out _).mono ?_
 rintro e w1 ⟨n1,v1,a1,f1,rfl,hb1,hx1,hn1,hv1,ha1,hf1⟩
 unfold exV
 have HB1:=Lib.hid hb1
 have HP1:=Lib.hid (PlV.ex (exN_nds hn1) ha1 (exVs_pts hv1) hf1)
 clear hb1 hn1 hv1 ha1 hf1 hx1
 go_upto_region 2 with fail
 obtain ⟨W2,hW⟩:∃ W:World,W=w1.alloc (.cells #[.slice (some ⟨n1,0,none⟩) 1 1,.slice (some ⟨a1,0,none⟩) 1 1,.slice (some ⟨f1,0,none⟩) 1 1] 26):=⟨_,rfl⟩
 have X1:Blk W2 w1.heap.size 26 #[.slice (some ⟨n1,0,none⟩) 1 1,.slice (some ⟨a1,0,none⟩) 1 1,.slice (some ⟨f1,0,none⟩) 1 1]:=by rw [hW];exact Blk.made rfl _ _
 have hA:Below w1.heap.size w1 W2:=by rw [hW];exact bA (bR w1) _
 have HP2:=Lib.hid (HP1.out.mono hA)
 have HB2:=Lib.hid (bT HB1.out hA)
 obtain ⟨g1,h1⟩:∃ g,w1.heap.size=g:=⟨_,rfl⟩
 rw [← hW]
 rw [h1] at X1 ⊢
 clear hW hA h1 HP1 HB1
 have HX1:=Lib.hid X1
 have HRg:=Lib.hid (fun W (hW:Below W2.heap.size W2 W)=>Regions_spec _ exP W (HP2.out.mono hW) aw_c1)
 have HLo:=Lib.hid (fun u W (hW:Below W2.heap.size W2 W)=>Locate_spec _ exP u W (HP2.out.mono hW))
 have HMi:=Lib.hid (fun W (hW:Below W2.heap.size W2 W)=>Middle_ok _ exP 1 W (HP2.out.mono hW) aw_c1)
 rw [aw_m1] at HMi
 have HL1:=Lib.hid (HLo.out ⟨5,5⟩)
 have HL2:=Lib.hid (HLo.out ⟨10,5⟩)
 rw [aw_l1] at HL1
 rw [aw_l2] at HL2
 replace HL1:=Lib.hid (show ∀ W,Below W2.heap.size W2 W→Calls Tryz.prog 24 #[.agg #[.slice (some ⟨n1,0,none⟩) 1 1,.slice (some ⟨a1,0,none⟩) 1 1,.slice (some ⟨f1,0,none⟩) 1 1],.agg #[.int .i64 5,.int .i64 5]] W fun e w'=>e=.returned (.tuple #[.int .i64 0,.int .i64 1,.int .i64 0])∧Below W.heap.size W w' from HL1.out)
 replace HL2:=Lib.hid (show ∀ W,Below W2.heap.size W2 W→Calls Tryz.prog 24 #[.agg #[.slice (some ⟨n1,0,none⟩) 1 1,.slice (some ⟨a1,0,none⟩) 1 1,.slice (some ⟨f1,0,none⟩) 1 1],.agg #[.int .i64 10,.int .i64 5]] W fun e w'=>e=.returned (.tuple #[.int .i64 2,.int .i64 1,.int .i64 0])∧Below W.heap.size W w' from HL2.out)
 replace HMi:=Lib.hid (show ∀ W,Below W2.heap.size W2 W→Calls Tryz.prog 30 #[.agg #[.slice (some ⟨n1,0,none⟩) 1 1,.slice (some ⟨a1,0,none⟩) 1 1,.slice (some ⟨f1,0,none⟩) 1 1],.int .i64 1] W fun e w'=>e=.returned (.tuple #[.agg #[.int .i64 5,.int .i64 5],.bool true])∧Below W.heap.size W w' from HMi.out)
 clear HLo
 obtain ⟨X1l,X1a,X1b,X1c,-,-,-⟩:=X1.facts3
 go_wp2_with fail
 refine (HRg.out _ (bR W2)).mono ?_
 rintro e w3 ⟨A,c,L,rfl,hb3,haf,hmap⟩
 rw [aw_rg] at hmap
 have hll:L.length=2:=by simpa using congrArg List.length hmap
 rw [hll]
 rw [hll] at haf
 have HAf:=Lib.hid haf;have HMap:=Lib.hid hmap;have HB3:=Lib.hid hb3
 clear hb3 haf hmap hll HRg X1 X1l X1a X1b X1c
 have X1:=HX1.out.keep HB3.out
 try clear X1l
 try clear X1a
 try clear X1b
 try clear X1c
 obtain ⟨X1l,X1a,X1b,X1c,-,-,-⟩:=X1.facts3
 go_wp2_with fail
 refine (HL1.out _ HB3.out).mono ?_
 rintro e w4 ⟨rfl,hb4⟩
 have HB4:=Lib.hid (bT HB3.out hb4)
 have HAf4:=Lib.hid (HAf.out.mono hb4)
 clear hb4 HB3 HAf HL1 X1 X1l X1a X1b X1c
 have X1:=HX1.out.keep HB4.out
 try clear X1l
 try clear X1a
 try clear X1b
 try clear X1c
 obtain ⟨X1l,X1a,X1b,X1c,-,-,-⟩:=X1.facts3
 go_wp2_with fail
 refine (HL2.out _ HB4.out).mono ?_
 rintro e w5 ⟨rfl,hb5⟩
 have HB5:=Lib.hid (bT HB4.out hb5)
 have HAf5:=Lib.hid (HAf4.out.mono hb5)
 clear hb5 HB4 HAf4 HL2 X1 X1l X1a X1b X1c
 have X1:=HX1.out.keep HB5.out
 try clear X1l
 try clear X1a
 try clear X1b
 try clear X1c
 obtain ⟨X1l,X1a,X1b,X1c,-,-,-⟩:=X1.facts3
 go_wp2_with fail
 refine (HMi.out _ HB5.out).mono ?_
 rintro e w6 ⟨rfl,hb6⟩
 have HB6:=Lib.hid (bT HB2.out (bT HB5.out hb6))
 have HAf6:=Lib.hid (HAf5.out.mono hb6)
 clear hb6 HB5 HAf5 HMi X1 X1l X1a X1b X1c HX1 HP2 HB2
 go_upto_region 6 with fail
 obtain ⟨W7,hW⟩:∃ W:World,W=w6.alloc (.cells #[.int .i64 5,.int .i64 5] 39):=⟨_,rfl⟩
 have X10:Blk W7 w6.heap.size 39 #[.int .i64 5,.int .i64 5]:=by rw [hW];exact Blk.made rfl _ _
 have hA:Below w6.heap.size w6 W7:=by rw [hW];exact bA (bR w6) _
 have HAf7:=Lib.hid (HAf6.out.mono hA)
 have HB7:=Lib.hid (bT HB6.out hA)
 obtain ⟨g10,h10⟩:∃ g,w6.heap.size=g:=⟨_,rfl⟩
 rw [← hW]
 rw [h10] at X10 ⊢
 have HX10:=Lib.hid X10
 clear hW hA h10 HAf6 HB6 X10
 go_wp2_with fail
 refine (HE.out _).mono ?_
 rintro e w8 ⟨n2,v2,a2,f2,rfl,hb8,hx8,hn2,hv2,ha2,hf2⟩
 unfold exV
 go_upto_region 7 with fail
 obtain ⟨W9,hW⟩:∃ W:World,W=w8.alloc (.cells #[.slice (some ⟨n2,0,none⟩) 1 1,.slice (some ⟨a2,0,none⟩) 1 1,.slice (some ⟨f2,0,none⟩) 1 1] 26):=⟨_,rfl⟩
 have hA:Below w8.heap.size w8 W9:=by rw [hW];exact bA (bR w8) _
 have T2:Blk W9 w8.heap.size 26 #[.slice (some ⟨n2,0,none⟩) 1 1,.slice (some ⟨a2,0,none⟩) 1 1,.slice (some ⟨f2,0,none⟩) 1 1]:=by rw [hW];exact Blk.made rfl _ _
 have HN2:=Lib.hid (hn2.keep hA);have HV2:=Lib.hid (hv2.keep hA);have HA2:=Lib.hid (ha2.keep hA);have HF2:=Lib.hid (hf2.keep hA)
 have HB9:=Lib.hid (bT hb8 hA)
 have hs8:=hb8.size
 obtain ⟨g12,h12⟩:∃ g,w8.heap.size=g:=⟨_,rfl⟩
 have hx9:W7.heap.size≤n2∧W7.heap.size≤v2∧W7.heap.size≤a2∧W7.heap.size≤f2∧W7.heap.size≤g12:=by omega
 rw [← hW]
 rw [h12] at T2 ⊢
 have HT2:=Lib.hid T2
 clear hW hA h12 hb8 hn2 hv2 ha2 hf2 hx8 hs8
 obtain ⟨T2l,T2a,T2b,T2c,T2fa,T2fb,T2fc⟩:=T2.facts3
 go_upto_region 8 with
  (at_builtin
   refine wpList_appl _ rfl (.tmp 44) (.tmp 47) _ rfl (base:=n2) elem_nd ndC_len ndC_one rfl (Own.of_blk (l:=[(⟨1,⟨0,0⟩⟩:Nd)]) (HN2.out.alloc _) (Nat.le_refl _) rfl rfl rfl (le_maxLen (by omega))) rfl (l2:=[(⟨2,⟨5,5⟩⟩:Nd)]) (Sl.lit (n:=1) (Blk.made rfl _ _) rfl (le_maxLen (by omega))) (by simp only [List.length_cons,List.length_nil];omega) (by simp only [List.length_cons,List.length_nil];omega) (by have:=HN2.out.lt;simp;omega) ?_
   intro v5 w5 ho5 hg5 hat5
   replace ho5:Own w5 n2 45 3 ndC v5 q1P.nodes:=ho5
   have hs5:Sl w5 v5 2 (q1P.nodes.flatMap ndC):=Own.sl ho5
   obtain ⟨A5,c5,rfl,-,-,-⟩:=hs5
   have HO5:=Lib.hid ho5
   have HG5:=Lib.hid (show (W9.alloc (.cells #[.int .i64 2,.int .i64 5,.int .i64 5] 45)).grownBy w5 (some n2) from hg5)
   have T2n:=(HT2.out.alloc (.cells #[.int .i64 2,.int .i64 5,.int .i64 5] 45)).grown HG5.out (fun e=>Blk.ne_ HT2.out HN2.out (by decide) (Option.some.inj e))
   have HT2n:=Lib.hid T2n
   clear T2 T2l T2a T2b T2c T2fa T2fb T2fc ho5 hg5 hat5
   obtain ⟨T2nl,T2na,-,-,T2nfa,-,-⟩:=T2n.facts3
   clear T2n)
 obtain ⟨W10,hW⟩:∃ W:World,W=w5.setCell ⟨g12,0,none⟩ (.slice A5 2 c5):=⟨_,rfl⟩
 have hK:∀ g t cs,g≠n2→g≠g12→Blk W9 g t cs→Blk W10 g t cs:=fun g t cs k1 k2 h=>by
  rw [hW]
  exact Blk.far (Blk.grown (h.alloc _) HG5.out (fun e=>k1 (Option.some.inj e))) k2 _
 have HNq:=Lib.hid (show Own W10 n2 45 3 ndC (.slice A5 2 c5) q1P.nodes by
  rw [hW]
  exact HO5.out.far (p:=⟨g12,0,none⟩) (Own.ne_blk HO5.out HT2n.out (by decide)) _)
 have HT:=Lib.hid (show Blk W10 g12 26 #[.slice A5 2 c5,.slice (some ⟨a2,0,none⟩) 1 1,.slice (some ⟨f2,0,none⟩) 1 1] by
  rw [hW]
  have:=HT2n.out.set_ 0 (.slice A5 2 c5)
  simpa using this)
 have HV:=Lib.hid (hK _ _ _ (Blk.ne_ HV2.out HN2.out (by decide)) (Blk.ne_ HV2.out HT2.out (by decide)) HV2.out)
 have HA:=Lib.hid (hK _ _ _ (Blk.ne_ HA2.out HN2.out (by decide)) (Blk.ne_ HA2.out HT2.out (by decide)) HA2.out)
 have HF:=Lib.hid (hK _ _ _ (Blk.ne_ HF2.out HN2.out (by decide)) (Blk.ne_ HF2.out HT2.out (by decide)) HF2.out)
 have HB10:=Lib.hid (show Below W7.heap.size W7 W10 by
  rw [hW]
  exact bS (p:=⟨g12,0,none⟩) (bG (bA HB9.out _) HG5.out (fun k hk=>by have:=Option.some.inj hk;omega)) (by simp;omega) _)
 rw [← hW]
 clear hW hK HO5 HG5 HT2n HV2 HA2 HF2 HN2 HT2 HB9 T2nl T2na T2nfa
 have HP10:=Lib.hid (show PlV W10 (.agg #[.slice A5 2 c5,.slice (some ⟨a2,0,none⟩) 1 1,.slice (some ⟨f2,0,none⟩) 1 1]) q1P from PlV.ex (Own.sl HNq.out) HA.out (exVs_pts HV.out) HF.out)
 have HM2:=Lib.hid (Middle_ok _ q1P 1 W10 HP10.out aw_c2)
 rw [aw_m2] at HM2
 replace HM2:=Lib.hid (show Calls Tryz.prog 30 #[.agg #[.slice A5 2 c5,.slice (some ⟨a2,0,none⟩) 1 1,.slice (some ⟨f2,0,none⟩) 1 1],.int .i64 1] W10 fun e w'=>e=.returned (.tuple #[.agg #[.int .i64 2,.int .i64 5],.bool true])∧Below W10.heap.size W10 w' from HM2.out)
 have X12:=HT.out
 obtain ⟨X12l,X12a,X12b,X12c,-,-,-⟩:=X12.facts3
 go_wp2_with fail
 refine HM2.out.mono ?_
 rintro e w11 ⟨rfl,hb11⟩
 have HB11:=Lib.hid hb11
 clear hb11 HM2 HP10 X12 X12l X12a X12b X12c
 go_upto_region 9 with fail
 obtain ⟨W11,hW⟩:∃ W:World,W=w11.alloc (.cells #[.int .i64 2,.int .i64 5] 39):=⟨_,rfl⟩
 have hA:Below W10.heap.size W10 W11:=by rw [hW];exact bA HB11.out _
 have X13:Blk W11 w11.heap.size 39 #[.int .i64 2,.int .i64 5]:=by rw [hW];exact Blk.made rfl _ _
 obtain ⟨g13,h13⟩:∃ g,w11.heap.size=g:=⟨_,rfl⟩
 rw [← hW]
 rw [h13] at X13 ⊢
 have HX13:=Lib.hid X13
 have HT11:=Lib.hid (HT.out.keep hA);have HN11:=Lib.hid (HNq.out.keep hA);have HV11:=Lib.hid (HV.out.keep hA);have HA11:=Lib.hid (HA.out.keep hA);have HF11:=Lib.hid (HF.out.keep hA)
 have HB12:=Lib.hid (bT HB10.out hA)
 clear hW hA h13 HT HNq HV HA HF HB10 HB11
 have X12:=HT11.out
 have XA:=HA11.out
 unfold exAr at XA
 try clear X12l
 try clear X12a
 try clear X12b
 try clear X12c
 obtain ⟨X12l,X12a,X12b,X12c,-,-,-⟩:=X12.facts3
 obtain ⟨XAl,XAa,XAb,XAc,XAd,XAe,XAf,XAfa,XAfb,XAfc,XAfd,XAfe,XAff⟩:=XA.facts6
 go_upto_region 10 with fail
 obtain ⟨W12,hW⟩:∃ W:World,W=W11.setCell ⟨a2,4,none⟩ (.int .i64 0):=⟨_,rfl⟩
 have HT12:=Lib.hid (show Blk W12 g12 26 _ by rw [hW];exact HT11.out.far (p:=⟨a2,4,none⟩) (Blk.ne_ HT11.out HA11.out (by decide)) _)
 have HX132:=Lib.hid (show Blk W12 g13 39 _ by rw [hW];exact HX13.out.far (p:=⟨a2,4,none⟩) (Blk.ne_ HX13.out HA11.out (by decide)) _)
 have HB13:=Lib.hid (show Below W7.heap.size W7 W12 by rw [hW];exact bS (p:=⟨a2,4,none⟩) HB12.out (by simp;omega) _)
 have HP12:=Lib.hid (show PlV W12 (.agg #[.slice A5 2 c5,.slice (some ⟨a2,0,none⟩) 1 1,.slice (some ⟨f2,0,none⟩) 1 1]) q2P by
  rw [hW]
  refine PlV.ex (v:=v2) (n:=3) (c:=3) (Own.sl (HN11.out.far (p:=⟨a2,4,none⟩) (Own.ne_blk HN11.out HA11.out (by decide)) _)) ?_ (exVs_pts (HV11.out.far (p:=⟨a2,4,none⟩) (Blk.ne_ HV11.out HA11.out (by decide)) _)) (HF11.out.far (p:=⟨a2,4,none⟩) (Blk.ne_ HF11.out HA11.out (by decide)) _)
  have:=HA11.out.set_ 4 (.int .i64 0)
  unfold exAr at this ⊢
  simpa using this)
 rw [← hW]
 clear hW HT11 HX13 HN11 HV11 HA11 HF11 HB12 X13 X12 X12l X12a X12b X12c XA XAl XAa XAb XAc XAd XAe XAf XAfa XAfb XAfc XAfd XAfe XAff
 have HLb:=Lib.hid (show Calls Tryz.prog 21 #[.agg #[.slice A5 2 c5,.slice (some ⟨a2,0,none⟩) 1 1,.slice (some ⟨f2,0,none⟩) 1 1]] W12 (RetLab W12 q1P) from (Label_ok _ q2P W12 HP12.out ⟨by show 2≤100000;omega,by show 1≤100000;omega,fun a ha=>by
   have e:a=⟨1,1,1,exVia,0,0⟩:=List.mem_singleton.1 ha
   subst e
   show 3≤100000
   omega⟩ aw_z).mono (fun e w' h=>by
  rcases h with ⟨h64,-⟩ | ⟨-,h⟩
  · rw [aw_o] at h64;omega
  · rw [aw_lb] at h;exact h))
 have HCk:=Lib.hid (fun W (hW:Below W12.heap.size W12 W)=>RegCheck_spec _ q2P W (HP12.out.mono hW))
 rw [aw_c3] at HCk
 have X12:=HT12.out
 try clear X12l
 try clear X12a
 try clear X12b
 try clear X12c
 obtain ⟨X12l,X12a,X12b,X12c,-,-,-⟩:=X12.facts3
 go_wp2_with fail
 refine HLb.out.mono ?_
 rintro e w13 ⟨An,cn,Aa,ca,Af,cf,bl,rfl,hb13,hpo⟩
 have har:=hpo.ars
 have heq:[(⟨1,1,1,exVia,1,0⟩:Ar)]=bl.map (·.1):=hpo.eq.symm
 obtain ⟨z,hbl⟩:∃ z,bl=[z]:=by
  cases bl with
  | nil=>simp at heq
  | cons z l =>
   cases l with
   | nil=>exact ⟨z,rfl⟩
   | cons _ _=>simp at heq
 subst hbl
 have hz:z.1=⟨1,1,1,exVia,1,0⟩:=by simpa using heq.symm
 obtain ⟨ba,oa,hAa,hla,-,-,-,-,y4,y5⟩:=Row.at6 (Own.row_w har) (k:=0) (by simp)
 simp only [List.getElem_cons_zero,hz,Nat.zero_mul,Nat.add_zero] at y4 y5
 subst hAa
 have HB14:=Lib.hid hb13;have HY4:=Lib.hid y4;have HY5:=Lib.hid y5
 clear hb13 hpo har heq hz y4 y5 HLb X12 X12l X12a X12b X12c
 go_upto_region 11 with fail
 obtain ⟨W14,hW⟩:∃ W:World,W=w13.alloc (.cells #[.slice An q1P.nodes.length cn,.slice (some ⟨ba,oa,none⟩) q1P.arcs.length ca,.slice Af q1P.faces.length cf] 26):=⟨_,rfl⟩
 have X15:Blk W14 w13.heap.size 26 #[.slice An q1P.nodes.length cn,.slice (some ⟨ba,oa,none⟩) q1P.arcs.length ca,.slice Af q1P.faces.length cf]:=by rw [hW];exact Blk.made rfl _ _
 have hA:Below w13.heap.size w13 W14:=by rw [hW];exact bA (bR w13) _
 replace HY4:=Lib.hid (keepc hA HY4.out);replace HY5:=Lib.hid (keepc hA HY5.out)
 have HB15:=Lib.hid (bT HB14.out hA)
 have HB16:=Lib.hid (bT HB13.out HB15.out)
 obtain ⟨g15,h15⟩:∃ g,w13.heap.size=g:=⟨_,rfl⟩
 rw [← hW]
 rw [h15] at X15 ⊢
 have HX15:=Lib.hid X15
 have hla2:=Nat.lt_of_lt_of_le hla hA.size
 clear hW hA h15 HB14
 have X10:=HX10.out.keep HB16.out
 have X13:=HX132.out.keep HB15.out
 have X12:=HT12.out.keep HB15.out
 have y4:=HY4.out
 have y5:=HY5.out
 have hA14:=HAf7.out.mono HB16.out
 have hS:=fun (W:World) (h:AdF W (.slice A 2 c) L) (L':List AD) (u:Value) (h':AdF W u L') (he:L.map adG=L'.map adG)=>RSame16_true (.slice A 2 c) u L L' W h h' he
 have HA14:=Lib.hid hA14;have HS:=Lib.hid hS
 clear hA14 hS
 have kl1:q1P.arcs.length=1:=rfl
 have kl2:q1P.nodes.length=2:=rfl
 have kl3:q1P.faces.length=1:=rfl
 rw [kl1,kl2,kl3] at X15
 rw [kl1,kl2,kl3] at HX15
 try rw [kl1,kl2,kl3]
 clear kl1 kl2 kl3
 obtain ⟨X10l,X10a,X10b,-,-⟩:=X10.facts2
 obtain ⟨X13l,X13a,X13b,-,-⟩:=X13.facts2
 try clear X12l
 try clear X12a
 try clear X12b
 try clear X12c
 obtain ⟨X12l,X12a,X12b,X12c,-,-,-⟩:=X12.facts3
 obtain ⟨X15l,X15a,X15b,X15c,-,-,-⟩:=X15.facts3
 go_wp2_with fail
 refine (HS.out (lit16 W14) (HA14.out.mono (lit16_below W14)) (litA W14) (.slice (some ⟨W14.heap.size+1+1+1,0,none⟩) 2 2) (lit16_read W14) (HMap.out.trans rfl)).mono ?_
 rintro e w20 ⟨rfl,hb20⟩
 have HBl:=Lib.hid (bT (lit16_below W14) hb20)
 clear hb20 X10 X10l X10a X10b X13 X13l X13a X13b X12 X12l X12a X12b X12c X15 X15l X15a X15b X15c y4 y5
 have X10:=(HX10.out.keep HB16.out).keep HBl.out
 have X13:=(HX132.out.keep HB15.out).keep HBl.out
 have X12:=(HT12.out.keep HB15.out).keep HBl.out
 try clear X10l
 try clear X10a
 try clear X10b
 obtain ⟨X10l,X10a,X10b,-,-⟩:=X10.facts2
 try clear X13l
 try clear X13a
 try clear X13b
 obtain ⟨X13l,X13a,X13b,-,-⟩:=X13.facts2
 try clear X12l
 try clear X12a
 try clear X12b
 try clear X12c
 obtain ⟨X12l,X12a,X12b,X12c,-,-,-⟩:=X12.facts3
 go_wp2_with fail
 refine (HCk.out _ (bT HB15.out HBl.out)).mono ?_
 rintro e w21 ⟨rfl,hb21⟩
 have HB21:=Lib.hid (bT HBl.out hb21)
 clear hb21 X10 X10l X10a X10b X13 X13l X13a X13b X12 X12l X12a X12b X12c
 have X15:=HX15.out.keep HB21.out
 have y4:=keepc HB21.out HY4.out
 have y5:=keepc HB21.out HY5.out
 try clear X15l
 try clear X15a
 try clear X15b
 try clear X15c
 obtain ⟨X15l,X15a,X15b,X15c,-,-,-⟩:=X15.facts3
 go_wp2_with fail
 go_ret
 exact ⟨rfl,bT HB7.out (bT HB16.out HB21.out)⟩
end Go.Proofs.YtialfdomhoojiaaGreat
