import Derived.Test.YtpempeioeiaijaaGreatJ27
import Derived.Test.YtpempeioeiaijaaGreatJ29
import Derived.Test.YtpempeioeiaijaaGreatGE
import Derived.Test.YtpempeioeiaijaaGreatLawIa
import Derived.Test.YtpempeioeiaijaaGreatJ33
import Derived.Test.YtpempeioeiaijaaGreatJ23
import Derived.Test.YtpempeioeiaijaaGreatJ06
import Derived.Test.YtpempeioeiaijaaGreatJ01
set_option linter.unusedSimpArgs false
set_option linter.unusedVariables false
namespace Go.Proofs.YtpempeioeiaijaaGreat
open Go.RowKit Go.Sort

theorem cntI_succ {l:List Nd} {f:Nd→Bool} {k:Nat} (hk:k<l.length):((l.take (k+1)).filter f).length=((l.take k).filter f).length+if f l[k]=true then 1 else 0:=by
 rw [List.take_succ_eq_append_getElem hk,List.filter_append,List.length_append]
 congr 1
 simp only [List.filter_cons,List.filter_nil]
 split<;>rfl
theorem cntI_le {l:List Nd} {f:Nd→Bool} (k:Nat):((l.take k).filter f).length≤l.length :=
 Nat.le_trans (List.length_filter_le _ _) (by rw [List.length_take];omega)

set_option maxRecDepth 100000 in
set_option maxHeartbeats 8000000 in
theorem IntakeRebuilds_spec (v:Value) (p:Pl) (w:World) (h:PlV w v p) (hsh:ShortL p):Calls Tryz.prog 9 #[v] w fun e w'=>e=.returned (.bool true)∧Below w.heap.size w w':=by
 have HAw:=Lib.hid (fun W=>Awake19_spec W)
 have HLi:=Lib.hid (fun W (hW:Below w.heap.size w W)=>Light16_spec v p W (h.mono hW) (fun a ha=>by have:=hsh a ha;omega))
 have HCk:=Lib.hid (fun W (hW:Below w.heap.size w W)=>Check_spec v p W (h.mono hW))
 have HL1:=Lib.hid (fun W (hW:Below w.heap.size w W) (hl:Lgt p)=>Lines19_spec v p W (h.mono hW) (fun a ha=>by have:=hl.vias a ha;omega) (by have:=hl.arcs;omega))
 have HDg:=Lib.hid (fun (hl:p.arcs.length≤1099511627776) id W (hW:Below w.heap.size w W)=>Degree_spec v p id W (h.mono hW) hl)
 obtain ⟨_,_,_,al,rfl,hpa,⟨An,cn,rfl,hn1,hn2,hRn⟩,⟨⟨Aa,ca,rfl,ha1,ha2,-⟩,-⟩,⟨Af,cf,rfl,hf1,hf2,-⟩⟩:=h
 have HRn:=Lib.hid hRn
 have hal:al.length=p.arcs.length:=by rw [hpa,List.length_map]
 unfold maxLen at ha2 hn2 hf2
 rw [hal] at HL1 HLi HCk HDg ⊢
 generalize hna:p.arcs.length=na at *
 generalize hnn:p.nodes.length=nn at *
 generalize p.faces.length=nf at *
 have HNn:=Lib.hid hnn;have HNa:=Lib.hid hna
 clear hsh hpa hRn hnn hna hal ha1
 go_enter Tryz.func9,Tryz.ntmps9
 go_upto_region 1 with fail
 obtain ⟨W1,hW⟩:∃ W:World,W=w.alloc (.cells #[.slice An nn cn,.slice Aa na ca,.slice Af nf cf] 34):=⟨_,rfl⟩
 have X1:Blk W1 w.heap.size 34 #[.slice An nn cn,.slice Aa na ca,.slice Af nf cf]:=by rw [hW];exact Blk.made rfl _ _
 have HB1:=Lib.hid (show Below w.heap.size w W1 by rw [hW];exact bA (bR w) _)
 have HX1:=Lib.hid X1
 rw [← hW]
 clear hW
 obtain ⟨X1l,X1a,X1b,X1c,-,-,-⟩:=X1.facts3
 go_wp2_with fail
 refine (HLi.out _ HB1.out).mono ?_
 rintro e w2 ⟨b,rfl,hlg,hb2⟩
 have HB2:=Lib.hid (bT HB1.out hb2)
 have HX2:=Lib.hid (HX1.out.keep hb2)
 clear hb2 X1 X1l X1a X1b X1c HX1 HB1 HLi
 cases b
 case false =>
  clear hlg
  go_wp2_with fail
  refine (HAw.out _).mono ?_
  rintro e w3 ⟨rfl,hb3⟩
  go_wp2_with fail
  go_ret
  exact ⟨rfl,bT HB2.out hb3⟩
 case true =>
  have hl:=hlg rfl
  have X2:=HX2.out
  obtain ⟨X2l,X2a,X2b,X2c,-,-,-⟩:=X2.facts3
  go_wp2_with fail
  refine (HCk.out _ HB2.out).mono ?_
  rintro e w3 ⟨rfl,hb3⟩
  have HB3:=Lib.hid (bT HB2.out hb3)
  have HX3:=Lib.hid (HX2.out.keep hb3)
  clear hb3 X2 X2l X2a X2b X2c HX2 HB2 HCk hlg
  by_cases hz:checkS p=0
  case neg =>
   generalize checkS p=z at *
   have hz':(z != 0)=true:=by simpa using hz
   clear hz
   go_wp2_with fail
   refine (HAw.out _).mono ?_
   rintro e w4 ⟨rfl,hb4⟩
   go_wp2_with fail
   go_ret
   exact ⟨rfl,bT HB3.out hb4⟩
  rw [hz]
  have hv:=(check_zero p).1 hz
  obtain ⟨hgd,hbz,hli,hcn,hrc⟩:=rebuild hv hl.arcs
  have HLp:=Lib.hid (fun W (hW:Below w.heap.size w W)=>HL1.out W hW hl)
  have HDg1:=Lib.hid (HDg.out (by have:=hl.arcs;rw [HNa.out] at this;omega))
  have hnb:nn≤30:=by have:=hl.nodes;rw [HNn.out] at this;exact this
  have HSh:=Lib.hid (bldP_short hbz)
  have HBu:=Lib.hid (fun u ys W (hx:Lns19 W u ys) (e:ys.map (·.2)=linesS p)=>show Calls Tryz.prog 18 #[u] W (fun e w'=>∃ v,e=.returned (.tuple #[v,.int .i64 0])∧Below W.heap.size W w'∧PlV w' v (bldP (linesS p))) from by
   have h9:=Build19_ok u ys W hx (by rw [e];exact hgd)
   unfold RetBld at h9
   rw [e,hbz] at h9
   exact h9)
  have HSo:=Lib.hid (fun u ys W (hx:Lns19 W u ys) (e:ys.map (·.2)=linesS p)=>show Calls Tryz.prog 24 #[u] W (RetPr19 W (srtL (linesS p))) from by
   have hn9:ys.length≤256:=by have:=hgd.num;rw [← e,List.length_map] at this;exact this
   have h9:=RSorted19_spec u ys W hx (by omega) (fun k hk=>by have:=hgd.len ys[k].2 (by rw [← e];exact List.mem_map_of_mem (List.getElem_mem hk));omega)
   rw [e] at h9
   exact h9)
  have HSa:=Lib.hid (fun v u xs ys W (hx:Lns19 W v xs) (hy:Lns19 W u ys) (ex:xs.map (·.2)=srtL (linesS p)) (ey:ys.map (·.2)=srtL (linesS p))=>show Calls Tryz.prog 14 #[v,u] W fun e w'=>e=.returned (.bool true)∧Below W.heap.size W w' from by
   have key:∀ zs:List (SV×List Pt),zs.map (·.2)=srtL (linesS p)→zs.length≤1000000∧∀ k (hk:k<zs.length),zs[k].2.length≤1000000000:=fun zs ez=>by
    have h1:zs.length=(linesS p).length:=by rw [← (srtL_perm (linesS p)).length_eq,← ez,List.length_map]
    refine ⟨by rw [h1];have:=hgd.num;omega,fun k hk=>?_⟩
    have hm:zs[k].2∈linesS p:=(srtL_perm _).mem_iff.1 (by rw [← ez];exact List.mem_map_of_mem (List.getElem_mem hk))
    have:=hgd.len _ hm
    omega
   have h9:=Same19_spec v u xs ys W hx hy (key xs ex).1 (key ys ey).1 (key xs ex).2 (key ys ey).2
   rw [ex,ey,decide_eq_true rfl] at h9
   exact h9)
  generalize linesS p=L at *
  have HRc:=Lib.hid (fun u W (hu:PlV W u (bldP L))=>show Calls Tryz.prog 21 #[u] W fun e w'=>e=.returned (.int .i64 0)∧Below W.heap.size W w' from by
   have h9:=RegCheck_spec u (bldP L) W hu
   rw [hrc] at h9
   exact h9)
  have HLq:=Lib.hid (fun u W (hu:PlV W u (bldP L))=>show Calls Tryz.prog 16 #[u] W (RetLns W (srtL L)) from by
   have h9:=Lines19_spec u (bldP L) W hu HSh.out.1 HSh.out.2
   rw [hli] at h9
   exact h9)
  generalize srtL L=SL at *
  have HCn:=Lib.hid hcn
  generalize bldP L=Q at *
  clear hv hl hz hgd hbz hli hrc HL1 HDg HSh hcn
  obtain ⟨n2,hn2⟩:∃ n2,Q.arcs.length=n2:=⟨_,rfl⟩
  obtain ⟨n3,hn3⟩:∃ n3,Q.faces.length=n3:=⟨_,rfl⟩
  obtain ⟨n1,hn1⟩:∃ n1,Q.nodes.length=n1:=⟨_,rfl⟩
  rw [hn1] at HCn
  have X3:=HX3.out
  obtain ⟨X3l,X3a,X3b,X3c,-,-,-⟩:=X3.facts3
  go_wp2_with fail
  refine (HLp.out _ HB3.out).mono ?_
  rintro e w4 ⟨A4,c4,ys,rfl,hb4,hl4,hy4⟩
  have HB4:=Lib.hid (bT HB3.out hb4)
  have HX4:=Lib.hid (HX3.out.keep hb4)
  have HL4:=Lib.hid hl4.lns
  have HY4:=Lib.hid hy4
  clear hb4 hl4 hy4 X3 X3l X3a X3b X3c HX3 HB3
  go_wp2_with fail
  refine (HBu.out _ ys _ HL4.out HY4.out).mono ?_
  rintro e w5 ⟨v5,rfl,hb5,hp5⟩
  obtain ⟨Bn,dn,Ba,da,Bf,df,hv5⟩:=hp5.open3
  rw [hn1,hn2,hn3] at hv5
  subst hv5
  have HB5:=Lib.hid (bT HB4.out hb5)
  have HX5:=Lib.hid (HX4.out.keep hb5)
  clear HBu HL4 HY4 HX4 HB4 hn1 hn2 hn3
  go_upto_region 4 with fail
  obtain ⟨g6,hg6⟩:∃ g6,w5.heap.size=g6:=⟨_,rfl⟩
  obtain ⟨W6,hW⟩:∃ W:World,W=w5.alloc (.cells #[.slice Bn n1 dn,.slice Ba n2 da,.slice Bf n3 df] 34):=⟨_,rfl⟩
  have hA6:Below w5.heap.size w5 W6:=by rw [hW];exact bA (bR w5) _
  have HY6:=Lib.hid (show Blk W6 g6 34 #[.slice Bn n1 dn,.slice Ba n2 da,.slice Bf n3 df] by rw [hW];exact Blk.made hg6.symm _ _)
  have HX6:=Lib.hid (HX5.out.keep hA6);have HQ6:=Lib.hid (PlV.mono hp5 hA6);have HB6:=Lib.hid (bT HB5.out hA6)
  rw [← hW]
  try rw [hg6]
  clear hW hg6 hA6 hb5 hp5 HX5 HB5
  go_upto_block 0 with fail
  go_wp2_with fail
  go_loopw [5,6] (fun s u wr=>∃ i:Nat,i≤nn∧u=.int .i64 i∧s=.int .i64 (((p.nodes.take i).filter (fun n=>decide (0<degS p.arcs n.id))).length:Nat)∧Below W6.heap.size W6 wr) (fun _ u _=>nn-(intOf u).toNat)
  case atStart => exact ⟨0,Nat.zero_le _,rfl,rfl,bR W6⟩
  case round =>
   obtain ⟨i,hi,rfl,rfl,hbi⟩:=hrel
   obtain ⟨wi,rfl⟩:∃ wi:World,wi=wr:=⟨_,rfl⟩
   have HBi:=Lib.hid (bT HB6.out hbi);have Hbi:=Lib.hid hbi
   have X1:=HX6.out.keep hbi
   clear hbi
   by_cases hil:i<nn
   ·
    have hip:i<p.nodes.length:=by rw [HNn.out];exact hil
    obtain ⟨b,o,hA,hlb,c0,-,-⟩:=(HRn.out.mono HBi.out).nd hip
    subst hA
    have hst:=cntI_succ (f:=fun n=>decide (0<degS p.arcs n.id)) hip
    have hle:=cntI_le (l:=p.nodes) (f:=fun n=>decide (0<degS p.arcs n.id)) i
    rw [HNn.out] at hle
    obtain ⟨q,hq⟩:∃ q,((p.nodes.take i).filter (fun n=>decide (0<degS p.arcs n.id))).length=q:=⟨_,rfl⟩
    rw [hq] at hst hle ⊢
    have HDg2:=Lib.hid (fun W (hW:Below wi.heap.size wi W)=>HDg1.out p.nodes[i].id W (bT HBi.out hW))
    generalize p.nodes[i]=nd at *
    have hq1:IntKind.i64.wrap ((q:Int)+1)=((q+1:Nat):Int):=by rw [show ((q+1:Nat):Int)=(q:Int)+1 by omega];exact IntWalk.i64_in _ (by omega)
    have r0:0≤(i:Int):=by omega
    have r1:(i:Int)<nn:=by omega
    have Hst:=Lib.hid hst
    obtain ⟨dg,hdg⟩:∃ dg,degS p.arcs nd.id=dg:=⟨_,rfl⟩
    rw [hdg] at HDg2 Hst
    clear hq hdg hst
    try clear X1l
    try clear X1a
    try clear X1b
    try clear X1c
    obtain ⟨X1l,X1a,X1b,X1c,-,-,-⟩:=X1.facts3
    go_upto_region 10 with fail
    by_cases hz:0<dg
    ·
     have HZ:=Lib.hid (show ((p.nodes.take (i+1)).filter (fun n=>decide (0<degS p.arcs n.id))).length=q+1 by
      have h:=Hst.out
      rw [if_pos (by simpa using hz)] at h
      exact h)
     refine rg_start (Since wi) (.run 7 0 0 (.call 7 255 (.take 8 511 (.done)))) (by kernel_rfl) (bD (bR _)) (by kernel_rfl) (by kernel_rfl) (Nat.le_of_ble_eq_true (by kernel_rfl)) ?_
     intro opsR QR Hops HQrg hS
     iterate 7
      apply rg_p;exact Hops;exact rfl;exact hS;exact rfl
      · intro _ hqc;go_simp;try rfl
      try simp only [pu]
     refine rg_call (i:=7) (get_of Hops rfl) (fun K hK=>?_)
     have HSrg:=Lib.hid hS;clear hS
     refine rg_run (wanted_plain rfl) ?_
     go_simp
     refine (HDg2.out _ HSrg.out).mono ?_
     rintro e wr1 ⟨rfl,hbr1⟩
     have hS:Since wi wr1:=bT (w:=wi) HSrg.out hbr1
     clear HSrg
     refine hK.out _ _ hS (fun _=>?_)
     clear hK K
     try simp only [pu]
     apply rg_p;exact Hops;exact rfl;exact hS;exact rfl
     · intro _ hqc;go_simp;try rfl
     try simp only [pu]
     refine rg_done ?_
     refine HQrg.down _ _ ?_
     have hB:Below wi.heap.size wi wr1:=hS
     clear hS HQrg Hops
     have HBn:=Lib.hid (bT Hbi.out hB)
     clear hB X1 X1l X1a X1b X1c c0
     go_wp2_with fail
     go_roundw
     case rel => exact ⟨i+1,by omega,by go_num,by rw [HZ.out];congr 1,HBn.out⟩
     case measure => simp [intOf];omega
    ·
     have HZ:=Lib.hid (show ((p.nodes.take (i+1)).filter (fun n=>decide (0<degS p.arcs n.id))).length=q by
      have h:=Hst.out
      rw [if_neg (by simpa using hz)] at h
      exact h)
     refine rg_start (Since wi) (.run 7 0 0 (.call 7 255 (.take 8 511 (.done)))) (by kernel_rfl) (bD (bR _)) (by kernel_rfl) (by kernel_rfl) (Nat.le_of_ble_eq_true (by kernel_rfl)) ?_
     intro opsR QR Hops HQrg hS
     iterate 7
      apply rg_p;exact Hops;exact rfl;exact hS;exact rfl
      · intro _ hqc;go_simp;try rfl
      try simp only [pu]
     refine rg_call (i:=7) (get_of Hops rfl) (fun K hK=>?_)
     have HSrg:=Lib.hid hS;clear hS
     refine rg_run (wanted_plain rfl) ?_
     go_simp
     refine (HDg2.out _ HSrg.out).mono ?_
     rintro e wr1 ⟨rfl,hbr1⟩
     have hS:Since wi wr1:=bT (w:=wi) HSrg.out hbr1
     clear HSrg
     refine hK.out _ _ hS (fun _=>?_)
     clear hK K
     try simp only [pu]
     apply rg_p;exact Hops;exact rfl;exact hS;exact rfl
     · intro _ hqc;go_simp;try rfl
     try simp only [pu]
     refine rg_done ?_
     refine HQrg.down _ _ ?_
     have hB:Below wi.heap.size wi wr1:=hS
     clear hS HQrg Hops
     have HBn:=Lib.hid (bT Hbi.out hB)
     clear hB X1 X1l X1a X1b X1c c0
     go_wp2_with fail
     go_roundw
     case rel => exact ⟨i+1,by omega,by go_num,by rw [HZ.out],HBn.out⟩
     case measure => simp [intOf];omega
   ·
    obtain rfl:i=nn:=by omega
    rw [List.take_of_length_le (show p.nodes.length≤i by rw [HNn.out];exact Nat.le_refl _),← HCn.out]
    have Y6:=HY6.out.keep Hbi.out
    have HQi:=Lib.hid (HQ6.out.mono Hbi.out)
    have HLq2:=Lib.hid (fun W (hW:Below wi.heap.size wi W)=>HLq.out _ W (HQi.out.mono hW))
    have HRc2:=Lib.hid (fun W (hW:Below wi.heap.size wi W)=>HRc.out _ W (HQi.out.mono hW))
    try clear X1l
    try clear X1a
    try clear X1b
    try clear X1c
    obtain ⟨X1l,X1a,X1b,X1c,-,-,-⟩:=X1.facts3
    obtain ⟨Y6l,Y6a,Y6b,Y6c,-,-,-⟩:=Y6.facts3
    go_upto_region 12 with fail
    refine rg_start (Since wi) (.call 0 1 (.run 9 1 1 (.take 11 3071 (.call 10 4095 (.call 12 8191 (.call 13 16383 (.call 14 32767 (.run 3 15 32767 (.call 18 524287 (.run 3 19 524287 (.done))))))))))) (by kernel_rfl) (bD (bR _)) (by kernel_rfl) (by kernel_rfl) (Nat.le_of_ble_eq_true (by kernel_rfl)) ?_
    intro opsR QR Hops HQrg hS
    refine rg_call (i:=0) (get_of Hops rfl) (fun K hK=>?_)
    have HSrg:=Lib.hid hS;clear hS
    refine rg_run (wanted_plain rfl) ?_
    go_simp
    refine (HAw.out _).mono ?_
    rintro e wr1 ⟨rfl,hbr1⟩
    have hS:Since wi wr1:=bT (w:=wi) HSrg.out hbr1
    clear HSrg
    refine hK.out _ _ hS (fun _=>?_)
    clear hK K
    try simp only [pu]
    apply rg_p;exact Hops;exact rfl;exact hS;exact rfl
    · intro _ hqc;go_simp;try rfl
    try simp only [pu]
    iterate 5
     apply rg_g;exact Hops;exact rfl;exact hS;iterate 4 exact rfl
     · intro _ hqc;go_simp;try rfl
     try simp only [pu]
    iterate 2
     apply rg_p;exact Hops;exact rfl;exact hS;exact rfl
     · intro _ hqc;go_simp;try rfl
     try simp only [pu]
    iterate 2
     apply rg_g;exact Hops;exact rfl;exact hS;iterate 4 exact rfl
     · intro _ hqc;go_simp;try rfl
     try simp only [pu]
    refine rg_call (i:=10) (get_of Hops rfl) (fun K hK=>?_)
    have HSrg:=Lib.hid hS;clear hS
    refine rg_run (wanted_yes rfl (get_of Hops rfl) rfl rfl) ?_
    go_simp
    refine (HLq2.out _ HSrg.out).mono ?_
    rintro e wr2 ⟨A6,c6,zs,rfl,hbr2,hl2,hy2⟩
    have hS:Since wi wr2:=bT (w:=wi) HSrg.out hbr2
    clear HSrg
    refine hK.out _ _ hS (fun _=>?_)
    clear hK K
    try simp only [pu]
    refine rg_call (i:=12) (get_of Hops rfl) (fun K hK=>?_)
    have HSrg:=Lib.hid hS;clear hS
    refine rg_run (wanted_yes rfl (get_of Hops rfl) rfl rfl) ?_
    go_simp
    refine (HLp.out _ (bT HBi.out HSrg.out)).mono ?_
    rintro e wr3 ⟨A7,c7,us,rfl,hbr3,hl3,hy3⟩
    have hS:Since wi wr3:=bT (w:=wi) HSrg.out hbr3
    clear HSrg
    refine hK.out _ _ hS (fun _=>?_)
    clear hK K
    try simp only [pu]
    refine rg_call (i:=13) (get_of Hops rfl) (fun K hK=>?_)
    have HSrg:=Lib.hid hS;clear hS
    refine rg_run (wanted_yes rfl (get_of Hops rfl) rfl rfl) ?_
    go_simp
    refine (HSo.out _ us _ hl3.lns hy3).mono ?_
    rintro e wr4 ⟨A8,c8,ts,rfl,hbr4,hl4,hy4⟩
    have hS:Since wi wr4:=bT (w:=wi) HSrg.out hbr4
    clear HSrg
    refine hK.out _ _ hS (fun _=>?_)
    clear hK K
    try simp only [pu]
    refine rg_call (i:=14) (get_of Hops rfl) (fun K hK=>?_)
    have HSrg:=Lib.hid hS;clear hS
    refine rg_run (wanted_yes rfl (get_of Hops rfl) rfl rfl) ?_
    go_simp
    refine (HSa.out _ _ zs ts _ ((hl2.keep hbr3).keep hbr4).lns hl4 hy2 hy4).mono ?_
    rintro e wr5 ⟨rfl,hbr5⟩
    have hS:Since wi wr5:=bT (w:=wi) HSrg.out hbr5
    clear HSrg
    refine hK.out _ _ hS (fun _=>?_)
    clear hK K
    try simp only [pu]
    iterate 2
     apply rg_p;exact Hops;exact rfl;exact hS;exact rfl
     · intro _ hqc;go_simp;try rfl
     try simp only [pu]
    apply rg_g;exact Hops;exact rfl;exact hS;iterate 4 exact rfl
    · intro _ hqc;go_simp;try rfl
    try simp only [pu]
    refine rg_call (i:=18) (get_of Hops rfl) (fun K hK=>?_)
    have HSrg:=Lib.hid hS;clear hS
    refine rg_run (wanted_yes rfl (get_of Hops rfl) rfl rfl) ?_
    go_simp
    refine (HRc2.out _ HSrg.out).mono ?_
    rintro e wr6 ⟨rfl,hbr6⟩
    have hS:Since wi wr6:=bT (w:=wi) HSrg.out hbr6
    clear HSrg
    refine hK.out _ _ hS (fun _=>?_)
    clear hK K
    try simp only [pu]
    apply rg_g;exact Hops;exact rfl;exact hS;iterate 4 exact rfl
    · intro _ hqc;go_simp;try rfl
    try simp only [pu]
    iterate 2
     apply rg_p;exact Hops;exact rfl;exact hS;exact rfl
     · intro _ hqc;go_simp;try rfl
     try simp only [pu]
    refine rg_done ?_
    refine HQrg.down _ _ ?_
    have hB:Below wi.heap.size wi wr6:=hS
    clear hS HQrg Hops
    have HB9:=Lib.hid (bT HBi.out hB)
    clear hB
    go_wp2_with fail
    go_ret
    exact ⟨ret_bool (by simp),HB9.out⟩
end Go.Proofs.YtpempeioeiaijaaGreat
