import Derived.Test.YtpempeioeiaijaaGreatLawIo
set_option linter.unusedSimpArgs false
set_option linter.unusedVariables false
namespace Go.Proofs.YtpempeioeiaijaaGreat
open Go.RowKit Go.Sort

theorem bld_cut19 {L:List (List Pt)} {n i:Nat} {l:List Pt} (hn:n<L.length) (hl:L[n]=l) (hi:i<l.length) (h0:i≠0) (h1:i≠l.length-1) (hf:Few L) (h13:L.length≤13) (hm:meets L l[i]=true) :
  let M:=L.take n++l.take (i+1)::l.drop i::L.drop (n+1)
  Few M∧bldZ M=bldZ L∧bldP M=bldP L:=by
 intro M
 have e1:l.take (i+1)=l.take i++[l[i]]:=List.take_succ_eq_append_getElem hi
 have e2:l.drop i=l[i]::l.drop (i+1):=List.drop_eq_getElem_cons hi
 have e3:l=l.take i++l[i]::l.drop (i+1):=by rw [← e2,List.take_append_drop]
 have e4:L=L.take n++(l.take i++l[i]::l.drop (i+1))::L.drop (n+1):=by
  rw [← e3,← hl,← List.drop_eq_getElem_cons hn,List.take_append_drop]
 have hM:M=L.take n++(l.take i++[l[i]])::(l[i]::l.drop (i+1))::L.drop (n+1):=by
  show L.take n++l.take (i+1)::l.drop i::L.drop (n+1)=_
  rw [e1,e2]
 have hlen:M.length≤14:=by
  show (L.take n++l.take (i+1)::l.drop i::L.drop (n+1)).length≤14
  simp only [List.length_append,List.length_take,List.length_cons,List.length_drop]
  omega
 have hml:l.length≤70:=hf.2 l (by rw [← hl];exact List.getElem_mem hn)
 have ha:l.take i≠[]:=by
  intro e
  have:=congrArg List.length e
  rw [List.length_take,List.length_nil] at this
  omega
 have hb:l.drop (i+1)≠[]:=by
  intro e
  have:=congrArg List.length e
  rw [List.length_drop,List.length_nil] at this
  omega
 have key:=bld_cut (A:=L.take n) (C:=L.drop (n+1)) (a:=l.take i) (b:=l.drop (i+1)) (p:=l[i]) ha hb (by rw [← e4];exact hm) (by rw [← hM];omega) (by rw [← e4];intro q hq;have:=hf.2 q hq;omega)
 rw [← hM,← e4] at key
 refine ⟨⟨hlen,fun q hq=>?_⟩,key⟩
 have hq2:q∈L.take n++l.take (i+1)::l.drop i::L.drop (n+1):=hq
 rw [List.mem_append,List.mem_cons,List.mem_cons] at hq2
 rcases hq2 with h | rfl | rfl | h
 · exact hf.2 q (List.mem_of_mem_take h)
 · rw [List.length_take];omega
 · rw [List.length_drop];omega
 · exact hf.2 q (List.mem_of_mem_drop h)
theorem found_mem {L:List (List Pt)} {p:Pt} (hz:chkL L=0) (h:(ptsS L).any (fun q=>decide (q=p))=true):meets L p=true:=by
 unfold ptsS at h
 rw [if_pos hz] at h
 obtain ⟨q,hq,e⟩:=List.any_eq_true.1 h
 have:=of_decide_eq_true e
 subst this
 exact meetL_mem.1 hq
theorem any_take19 {l:List Pt} {k:Nat} (hk:k<l.length) (f:Pt→Bool):(l.take (k+1)).any f=((l.take k).any f || f l[k]):=by
 rw [List.take_succ_eq_append_getElem hk,List.any_append]
 simp

set_option maxRecDepth 100000 in
set_option maxHeartbeats 8000000 in
theorem IntakeCuts_spec (v:Value) (xs:List (SV×List Pt)) (ln at_:Int) (w:World) (h:Lns19 w v xs) (hu:(Lit.int .u8 ln).wf=true) (hu2:(Lit.int .u8 at_).wf=true):Calls Tryz.prog 7 #[v,.int .u8 ln,.int .u8 at_] w fun e w'=>e=.returned (.bool true)∧Below w.heap.size w w':=by
 have hlb:=u8_bd19 hu
 have hab:=u8_bd19 hu2
 have HAw:=Lib.hid (fun W=>Awake19_spec W)
 have HLi:=Lib.hid (Light19_spec v xs w h)
 have HX:=Lib.hid h
 obtain ⟨⟨A,c,rfl,hm1,hm2,hR⟩,hP⟩:=h
 unfold maxLen at hm2
 have HS:=Lib.hid (show Sl w (.slice A xs.length c) xs.length (xs.flatMap llC) from ⟨A,c,rfl,hm1,hm2,hR⟩)
 have HP:=Lib.hid hP;have HR:=Lib.hid hR
 clear hu hu2 hR hP
 cases hl:light19S (xs.map (·.2))
 case false =>
  rw [hl] at HLi
  clear hl HX HS HP HR
  generalize xs.length=n at *
  go_enter Tryz.func7,Tryz.ntmps7
  go_wp2_with fail
  refine HLi.out.mono ?_
  rintro e w1 ⟨rfl,hb1⟩
  go_wp2_with fail
  refine (HAw.out _).mono ?_
  rintro e w2 ⟨rfl,hb2⟩
  go_wp2_with fail
  go_ret
  exact ⟨rfl,bT hb1 hb2⟩
 case true =>
  rw [hl] at HLi
  have HFw:=Lib.hid (show Few (xs.map (·.2)) from light_bd hl)
  have h14:xs.length≤14:=by have:=HFw.out.1;simpa using this
  clear hl
  go_enter Tryz.func7,Tryz.ntmps7
  go_wp2_with fail
  refine HLi.out.mono ?_
  rintro e w1 ⟨rfl,hb1⟩
  have HB1:=Lib.hid hb1
  clear hb1 HLi
  by_cases h0:xs.length=0
  ·
   have h0':(xs.length:Int)=0:=by omega
   clear h0
   go_wp2_with fail
   refine (HAw.out _).mono ?_
   rintro e w2 ⟨rfl,hb2⟩
   go_wp2_with fail
   go_ret
   exact ⟨rfl,bT HB1.out hb2⟩
  have h0':¬ (xs.length:Int)=0:=by omega
  have h0b:((xs.length:Int) == 0)=false:=beq_eq_false_iff_ne.2 h0'
  by_cases h13:13<xs.length
  ·
   have h13':(13:Int)<(xs.length:Int):=by omega
   go_wp2_with fail
   refine (HAw.out _).mono ?_
   rintro e w2 ⟨rfl,hb2⟩
   go_wp2_with fail
   go_ret
   exact ⟨rfl,bT HB1.out hb2⟩
  have h13':¬ (13:Int)<(xs.length:Int):=by omega
  have HQx:=Lib.hid (fun W (hW:Below w.heap.size w W)=>Pts19_few _ xs W (HX.out.mono hW) HFw.out)
  have hln:=ptsS_few HFw.out
  obtain ⟨l,hll⟩:∃ l,ptsS (xs.map (·.2))=l:=⟨_,rfl⟩
  obtain ⟨z,hzz⟩:∃ z,chkL (xs.map (·.2))=z:=⟨_,rfl⟩
  unfold RetPA at HQx
  rw [hll,hzz] at HQx
  rw [hll] at hln
  have HLl:=Lib.hid hll;have HZz:=Lib.hid hzz
  clear hll hzz
  go_wp2_with fail
  refine (HQx.out _ HB1.out).mono ?_
  rintro e w2 ⟨A2,c2,rfl,hb2,hp2⟩
  have HB2:=Lib.hid (bT HB1.out hb2);have Hp2:=Lib.hid hp2
  clear hb2 hp2 HQx
  by_cases hz:z=0
  case neg =>
   have hz':(z != 0)=true:=by simpa using hz
   clear hz
   go_wp2_with fail
   refine (HAw.out _).mono ?_
   rintro e w3 ⟨rfl,hb3⟩
   go_wp2_with fail
   go_ret
   exact ⟨rfl,bT HB2.out hb3⟩
  subst hz
  obtain ⟨n,hn,hwr,hmod⟩:=rem_fact19 ln xs.length hlb (by omega)
  obtain ⟨b,o,rfl,hlb0,hc0⟩:=HR.out.lnK hn
  obtain ⟨A1,c1,hv1,hc3,hc4,hR1⟩:=HP.out n hn
  have HR1:=Lib.hid hR1
  have hgd:=chkL_good.1 HZz.out
  have hl2:2≤xs[n].2.length:=hgd.two _ (List.mem_map_of_mem (List.getElem_mem hn))
  have hl70:xs[n].2.length≤70:=HFw.out.2 _ (List.mem_map_of_mem (List.getElem_mem hn))
  rw [hv1] at hc0
  unfold maxLen at hc4
  obtain ⟨L,hL⟩:∃ L,xs[n].2=L:=⟨_,rfl⟩
  have HV1:=Lib.hid hv1
  simp only [hL] at hc0 HR1 hc3 hl2 hl70 HV1
  have HL:=Lib.hid hL
  have HC0:=Lib.hid hc0
  obtain ⟨i,hi,hwr2,hmod2⟩:=rem_fact19 at_ L.length hab (by omega)
  have c0:=HC0.out _ HB2.out
  have y1:(n:Int)<xs.length:=by omega
  have y2:(0:Int)≤n:=by omega
  have y3:¬ (L.length:Int)=0:=by omega
  have y4:¬ L.length=0:=by omega
  clear hv1 hR1 hL hgd hc0
  go_upto_block 0 with fail
  obtain ⟨A2',c2',he2,hd1,hd2,hR2⟩:=Hp2.out
  injection he2 with e1 e2 e3
  subst e1 e3
  clear e2
  unfold maxLen at hd2
  have HR2:=Lib.hid hR2
  clear hR2
  obtain ⟨b1,o1,hA1,hlb1,-⟩:=HR1.out.pt hi
  subst hA1
  have HPi:=Lib.hid (fun W (hW:Below w.heap.size w W)=>(HR1.out.mono hW).pt hi)
  obtain ⟨p,hp⟩:∃ p,L[i]=p:=⟨_,rfl⟩
  rw [hp] at HPi
  have Hp:=Lib.hid hp
  have z1:(i:Int)<L.length:=by omega
  have z2:(0:Int)≤i:=by omega
  clear hp hlb1
  go_wp2_with fail
  go_loopw [11,12] (fun f u wr=>∃ k:Nat,k≤l.length∧u=.int .i64 k∧f=.bool ((l.take k).any (fun q=>decide (q=p)))∧Below w2.heap.size w2 wr) (fun _ u _=>l.length-(intOf u).toNat)
  case atStart => exact ⟨0,Nat.zero_le _,rfl,rfl,bR w2⟩
  case round =>
   obtain ⟨k,hk,rfl,rfl,hb⟩:=hrel
   obtain ⟨wo,rfl⟩:∃ wo:World,wo=wr:=⟨_,rfl⟩
   have Hb:=Lib.hid hb
   clear hb c0
   have c0:=HC0.out _ (bT HB2.out Hb.out)
   have hlb:b<wo.heap.size:=Nat.lt_of_lt_of_le hlb0 (bT HB2.out Hb.out).size
   obtain ⟨b9,o9,he9,hlb1,d0,d1⟩:=HPi.out _ (bT HB2.out Hb.out)
   simp only [Option.some.injEq,Addr.mk.injEq,and_true] at he9
   obtain ⟨rfl,rfl⟩:=he9
   by_cases hlt:k<l.length
   ·
    have HAn:=Lib.hid (any_take19 hlt (fun q=>decide (q=p)))
    have z3:(k:Int)<l.length:=by omega
    have z4:(0:Int)≤k:=by omega
    cases hf:(l.take k).any (fun q=>decide (q=p))
    case true =>
     rw [hf] at HAn
     clear hf
     have HA9:=Lib.hid (show (l.take (k+1)).any (fun q=>decide (q=p))=true by rw [HAn.out];rfl)
     go_upto_region 12 with fail
     refine rg_start (Since wo) (.run 16 0 0 (.done)) (by kernel_rfl) (bD (bR _)) (by kernel_rfl) (by kernel_rfl) (Nat.le_of_ble_eq_true (by kernel_rfl)) ?_
     intro opsR QR Hops HQrg hS
     iterate 2
      apply rg_p;exact Hops;exact rfl;exact hS;exact rfl
      · intro _ hqc;go_simp;try rfl
      try simp only [pu]
     iterate 12
      refine rg_yn Hops rfl hS rfl rfl rfl rfl rfl ?_
      try simp only [pu]
     iterate 2
      apply rg_p;exact Hops;exact rfl;exact hS;exact rfl
      · intro _ hqc;go_simp;try rfl
      try simp only [pu]
     refine rg_done ?_
     refine HQrg.down _ _ ?_
     have hB:Below wo.heap.size wo wo.drew:=hS
     clear hS HQrg Hops
     have HB6:=Lib.hid (bT Hb.out hB)
     clear hB d0 d1 c0
     go_wp2_with fail
     go_roundw
     case rel => exact ⟨k+1,by omega,by go_num,by rw [HA9.out],HB6.out⟩
     case measure => simp [intOf];omega
    case false =>
     rw [hf] at HAn
     clear hf
     obtain ⟨b3,o3,rfl,hlb3,f0,f1⟩:=(HR2.out.mono Hb.out).pt hlt
     obtain ⟨r,hr⟩:∃ r,l[k]=r:=⟨_,rfl⟩
     rw [hr] at f0 f1 HAn
     clear hr
     have heq:=run_eql_pt r p
     have HA9:=Lib.hid (show (l.take (k+1)).any (fun q=>decide (q=p))=decide (r=p) by rw [HAn.out];rfl)
     go_upto_region 12 with fail
     refine rg_start (Since wo) (.run 16 0 0 (.done)) (by kernel_rfl) (bD (bR _)) (by kernel_rfl) (by kernel_rfl) (Nat.le_of_ble_eq_true (by kernel_rfl)) ?_
     intro opsR QR Hops HQrg hS
     iterate 2
      apply rg_p;exact Hops;exact rfl;exact hS;exact rfl
      · intro _ hqc;go_simp;try rfl
      try simp only [pu]
     iterate 12
      apply rg_g;exact Hops;exact rfl;exact hS;iterate 4 exact rfl
      · intro _ hqc;go_simp;try rfl
      try simp only [pu]
     iterate 2
      apply rg_p;exact Hops;exact rfl;exact hS;exact rfl
      · intro _ hqc;go_simp;try rfl
      try simp only [pu]
     refine rg_done ?_
     refine HQrg.down _ _ ?_
     have hB:Below wo.heap.size wo wo.drew:=hS
     clear hS HQrg Hops
     have HB6:=Lib.hid (bT Hb.out hB)
     clear hB d0 d1 c0 heq f0 f1
     go_wp2_with fail
     go_roundw
     case rel => exact ⟨k+1,by omega,by go_num,by rw [HA9.out],HB6.out⟩
     case measure => simp [intOf];omega
   ·
    have hkl:k=l.length:=by omega
    subst hkl
    have HF:=Lib.hid (fun (h:(l.take l.length).any (fun q=>decide (q=p))=true)=>show meets (xs.map (·.2)) L[i]=true from found_mem HZz.out (by rw [HLl.out,Hp.out];rw [List.take_length] at h;exact h))
    obtain ⟨fd,hfd⟩:∃ fd,(l.take l.length).any (fun q=>decide (q=p))=fd:=⟨_,rfl⟩
    rw [hfd] at HF ⊢
    have HB3:=Lib.hid (bT HB2.out Hb.out)
    have e9:IntKind.i64.wrap ((L.length:Int)-1)=(L.length:Int)-1:=IntWalk.i64_in _ (by omega)
    clear hfd Hb d0 d1
    by_cases hgo:fd=true∧¬ (i:Int)=0∧¬ (i:Int)=(L.length:Int)-1
    ·
     obtain ⟨rfl,q1,q2⟩:=hgo
     have hmt:=HF.out rfl
     have hcut:=bld_cut19 (L:=xs.map (·.2)) (n:=n) (i:=i) (l:=L) (by simpa using hn) (by simp only [List.getElem_map];exact HL.out) hi (by omega) (by omega) HFw.out (by simp;omega) hmt
     simp only at hcut
     obtain ⟨hfM,hzM,hpM⟩:=hcut
     obtain ⟨y1',hy1⟩:∃ y:SV×List Pt,y=(⟨some ⟨b1,o1,none⟩,i+1,c1⟩,L.take (i+1)):=⟨_,rfl⟩
     obtain ⟨y2',hy2⟩:∃ y:SV×List Pt,y=(⟨cutA (some ⟨b1,o1,none⟩) c1 i 2,L.length-i,c1-i⟩,L.drop i):=⟨_,rfl⟩
     obtain ⟨ys,hys⟩:∃ ys,xs.take n++[y1',y2']++xs.drop (n+1)=ys:=⟨_,rfl⟩
     have hSL:Sl w (.slice (some ⟨b1,o1,none⟩) L.length c1) L.length (L.flatMap ptC):=⟨_,_,rfl,hc3,by unfold maxLen;exact hc4,HR1.out⟩
     have hYp:∀ y∈ys,Pts w (svV y.1) y.2:=fun y hy=>by
      have key:∀ y∈xs,Pts w (svV y.1) y.2:=fun y hy=>by
       obtain ⟨j,hj,he⟩:=List.mem_iff_getElem.1 hy
       rw [← he]
       exact HP.out j hj
      rw [← hys,List.mem_append,List.mem_append] at hy
      rcases hy with (h | h) | h
      · exact key y (List.mem_of_mem_take h)
      ·
       rw [List.mem_cons,List.mem_cons] at h
       rcases h with rfl | rfl | h
       ·
        rw [hy1]
        exact Sl.pre_ hSL (i+1) (by omega)
       ·
        rw [hy2]
        exact (by have h9:=Sl.from_ ptC_len hSL i (by omega);exact h9)
       · cases h
      · exact key y (List.mem_of_mem_drop h)
     have hYm:ys.map (·.2)=(xs.map (·.2)).take n++L.take (i+1)::L.drop i::(xs.map (·.2)).drop (n+1):=by
      rw [← hys,hy1,hy2]
      simp only [List.map_append,List.map_cons,List.map_nil,List.map_take,List.map_drop,List.append_assoc,List.cons_append,List.nil_append]
     rw [← hYm] at hfM hzM hpM
     have HYp:=Lib.hid hYp;have HYs:=Lib.hid hys
     have hylen:ys.length=xs.length+1:=by
      rw [← hys]
      simp only [List.length_append,List.length_take,List.length_cons,List.length_nil,List.length_drop]
      omega
     have HYl:=Lib.hid hylen
     have HfM:=Lib.hid hfM;have HzM:=Lib.hid hzM;have HpM:=Lib.hid hpM
     have hrun1:=run_pre Tryz.underlying22 (fun w=>show (Go.sizeOf 25).run Tryz.prog w=.ok 1 w by kernel_rfl) (some ⟨b,o,none⟩) xs.length c n (by omega) hm1
     have hrun2:=run_cut Tryz.underlying22 (fun w=>show (Go.sizeOf 25).run Tryz.prog w=.ok 1 w by kernel_rfl) (some ⟨b,o,none⟩) xs.length c (n+1) (by omega) ((n:Int)+1) (by omega)
     have hrun3:∀ W,(Go.Instr.slice 25 (.slice (some ⟨b1,o1,none⟩) L.length c1) none (some (.int .i64 ((i:Int)+1))) none).run Tryz.prog W=.ok (.slice (some ⟨b1,o1,none⟩) (i+1) c1) W:=fun W=>run_pre Tryz.underlying25 (fun w=>show (Go.sizeOf 42).run Tryz.prog w=.ok 2 w by kernel_rfl) (some ⟨b1,o1,none⟩) L.length c1 (i+1) (by omega) hc3 W
     have hrun4:=run_cut Tryz.underlying25 (fun w=>show (Go.sizeOf 42).run Tryz.prog w=.ok 2 w by kernel_rfl) (some ⟨b1,o1,none⟩) L.length c1 i (by omega) (i:Int) rfl
     have HTk:=Lib.hid (show Sl w (.slice (some ⟨b,o,none⟩) n c) (xs.take n).length ((xs.take n).flatMap llC) from Sl.pre_ HS.out n (by omega))
     have HDr:=Lib.hid (show Sl w (.slice (cutA (some ⟨b,o,none⟩) c (n+1) 1) (xs.length-(n+1)) (c-(n+1))) (xs.drop (n+1)).length ((xs.drop (n+1)).flatMap llC) from Sl.from_ llC_len HS.out (n+1) (by omega))
     have HTl:=Lib.hid (show (xs.take n).length≤14 by rw [List.length_take];omega)
     have HDl:=Lib.hid (show (xs.drop (n+1)).length≤14 by rw [List.length_drop];omega)
     have hwi:IntKind.i64.wrap ((i:Int)+1)=(i:Int)+1:=IntWalk.i64_in _ (by omega)
     have hwn:IntKind.i64.wrap ((n:Int)+1)=(n:Int)+1:=IntWalk.i64_in _ (by omega)
     obtain ⟨A8,hA8⟩:∃ A8,cutA (some ⟨b1,o1,none⟩) c1 i 2=A8:=⟨_,rfl⟩
     obtain ⟨n8,hn8⟩:∃ n8,L.length-i=n8:=⟨_,rfl⟩
     obtain ⟨c8,hc8⟩:∃ c8,c1-i=c8:=⟨_,rfl⟩
     rw [hA8,hn8,hc8] at hy2 hrun4
     have HY1:=Lib.hid (show svV y1'.1=.slice (some ⟨b1,o1,none⟩) (i+1) c1 by rw [hy1];rfl)
     have HY2:=Lib.hid (show svV y2'.1=.slice A8 n8 c8 by rw [hy2];rfl)
     clear hmt hfM hzM hpM hSL hYp hYm hys hylen hy1 hy2 hA8 hn8 hc8 HF
     have q1b:((i:Int) == 0)=false:=beq_eq_false_iff_ne.2 q1
     have q2b:((i:Int) == (L.length:Int)-1)=false:=beq_eq_false_iff_ne.2 q2
     go_upto_region 16 with
      (at_builtin
       refine wpList_appl _ rfl (.tmp 91) (.tmp 94) _ rfl (base:=wo.heap.size) elem_ln llC_len llC_one rfl (Own.lit _ _ _ _ llC [] _ 0 _ rfl rfl (Nat.le_refl _) (le_maxLen (by omega)) rfl rfl) rfl (l2:=xs.take n) (HTk.out.mono (bA HB3.out _)) (by have:=HTl.out;simp only [List.length_nil];omega) (by have:=HTl.out;simp only [List.length_nil];omega) (by simp) ?_
       intro v5 w5 ho5 hg5 hat5
       rw [List.nil_append] at ho5
       have HO5:=Lib.hid ho5
       have HB5:=Lib.hid (show Below wo.heap.size wo w5 from bG (bA (bR wo) _) hg5 (fun g hg=>by have h:=Option.some.inj hg;simp at h;omega))
       have hz5:wo.heap.size≤w5.heap.size:=HB5.out.size
       clear ho5 hg5 hat5)
     replace c0:=HC0.out _ (bT HB3.out HB5.out)
     have hlb5:b<w5.heap.size:=Nat.lt_of_lt_of_le hlb hz5
     have hlbo:b<wo.heap.size:=hlb
     refine rg_start (SinceB (wo.heap.size) w5) (.run 14 0 0 (.run 4 16 16383 (.call 14 1015807 (.call 15 1048575 (.call 20 2097151 (.take 21 4194303 (.done))))))) (by kernel_rfl) (Below.drew (Below.refl _ _)) (by kernel_rfl) (by kernel_rfl) (Nat.le_of_ble_eq_true (by kernel_rfl)) ?_
     intro opsR QR Hops HQrg hS
     iterate 18
      apply rg_pB;exact Hops;exact rfl;exact hS;exact rfl
      · intro _ hqc;go_simp;try rfl
      try simp only [pu]
     refine rg_call (i:=14) (get_of Hops rfl) (fun K hK=>?_)
     have HSrg:=Lib.hid hS;clear hS
     refine rg_run (wanted_plain rfl) ?_
     go_simp
     refine hK.out _ _ (bAB (by omega) HSrg.out _) (fun hS=>?_)
     clear hK K HSrg
     try simp only [pu]
     refine rg_call (i:=15) (get_of Hops rfl) (fun K hK=>?_)
     have HSrg:=Lib.hid hS;clear hS
     refine rg_run (wanted_plain rfl) ?_
     refine wp_appl (.tmp 96) (.tmp 110) _ rfl (base:=wo.heap.size) elem_ln llC_len llC_one rfl (Own.alloc (HO5.out.keep (bD (bR w5))) _) rfl (l2:=[y1',y2']) (Sl.lit (n:=2) (Blk.made rfl _ _) (by simp only [List.flatMap_cons,List.flatMap_nil,llC,HY1.out,HY2.out];rfl) (le_maxLen (by omega))) (by have:=HTl.out;simp only [List.length_cons,List.length_nil];omega) (by have:=HTl.out;simp only [List.length_cons,List.length_nil];omega) (by simp;omega) ?_
     intro v6 w6 ho6 hg6 hat6
     have hB6:Below wo.heap.size w5 w6:=Below.grown (Below.alloc (Below.drew (Below.refl _ _)) (by simp;omega) _) hg6 (by simp;omega) (fun g hg=>(HO5.out.lt g hg).1)
     have hS:SinceB (wo.heap.size) w5 w6:=hB6
     have HB6:=Lib.hid hB6
     have HO6:=Lib.hid ho6
     have hz6:wo.heap.size≤w6.heap.size:=Nat.le_trans hz5 hB6.size
     clear ho6 hg6 hat6 hB6
     clear HSrg
     refine hK.out _ _ hS (fun _=>?_)
     clear hK K
     try simp only [pu]
     refine rg_call (i:=20) (get_of Hops rfl) (fun K hK=>?_)
     have HSrg:=Lib.hid hS;clear hS
     refine rg_run (wanted_plain rfl) ?_
     refine wp_appl (.tmp 111) (.tmp 115) _ rfl (base:=wo.heap.size) elem_ln llC_len llC_one rfl HO6.out rfl (l2:=xs.drop (n+1)) (HDr.out.mono (bT HB3.out (HB5.out.trans HB6.out))) (by have:=HTl.out;have:=HDl.out;simp only [List.length_append,List.length_cons,List.length_nil];omega) (by have:=HTl.out;have:=HDl.out;simp only [List.length_append,List.length_cons,List.length_nil];omega) hz6 ?_
     intro v7 w7 ho7 hg7 hat7
     rw [HYs.out] at ho7
     have hS:SinceB (wo.heap.size) w5 w7:=Below.grown HB6.out hg7 hz6 (fun g hg=>(HO6.out.lt g hg).1)
     obtain ⟨A7,c7,hv7,-,-⟩:=Own.shape_ ho7
     rw [HYl.out] at hv7
     subst hv7
     have HO7:=Lib.hid ho7
     clear ho7 hg7 hat7
     clear HSrg
     refine hK.out _ _ hS (fun _=>?_)
     clear hK K
     try simp only [pu]
     apply rg_pB;exact Hops;exact rfl;exact hS;exact rfl
     · intro _ hqc;go_simp;try rfl
     try simp only [pu]
     refine rg_done ?_
     refine HQrg.down _ _ ?_
     have hB:Below (wo.heap.size) w5 _:=hS
     clear hS HQrg Hops
     have HB7:=Lib.hid (HB5.out.trans hB)
     clear hB HB5 HB6 HO5 HO6 hz5 hz6 c0 hlb5 hrun1 hrun2 hrun3 hrun4 hwi hwn HTk HDr HTl HDl
     have hLy:Lns19 w7 (.slice A7 (xs.length+1) c7) ys:=⟨by have h9:=Own.sl HO7.out;exact h9,fun k hk=>(HYp.out _ (List.getElem_mem hk)).mono (bT HB3.out HB7.out)⟩
     have HBx:=Lib.hid (fun W (hW:Below w.heap.size w W)=>Build19_few _ xs W (HX.out.mono hW) HFw.out)
     have HBy:=Lib.hid (fun W (hW:Below w7.heap.size w7 W)=>show Calls Tryz.prog 18 #[.slice A7 (xs.length+1) c7] W (RetBld W (xs.map (·.2))) from by
      have h9:=Build19_few _ ys W (hLy.mono hW) HfM.out
      unfold RetBld at h9 ⊢
      rw [HzM.out,HpM.out] at h9
      exact h9)
     have HB0:=Lib.hid (bT HB3.out HB7.out)
     have HSa:=Lib.hid (fun u1 u2 P W (h1:PlV W u1 P) (h2:PlV W u2 P)=>RSame14_true u1 u2 P W h1 h2)
     unfold RetBld at HBx HBy
     generalize bldZ (xs.map (·.2))=z at *
     generalize bldP (xs.map (·.2))=P at *
     obtain ⟨n1,hn1⟩:∃ n1,P.nodes.length=n1:=⟨_,rfl⟩
     obtain ⟨n2,hn2⟩:∃ n2,P.arcs.length=n2:=⟨_,rfl⟩
     obtain ⟨n3,hn3⟩:∃ n3,P.faces.length=n3:=⟨_,rfl⟩
     clear hLy HX HFw HP HS HR HO7 HYp HYs HfM HzM HpM HLl HPi HL Hp HC0 HR1 HR2 HV1 HY1 HY2 Hp2 HYl q1b q2b
     go_upto_region 17 with fail
     go_wp2_with fail
     refine (HBx.out _ HB0.out).mono ?_
     rintro e w2' ⟨v2,rfl,hb2,hp2⟩
     obtain ⟨An,cn,Aa,ca,Af,cf,hv2⟩:=hp2.open3
     rw [hn1,hn2,hn3] at hv2
     subst hv2
     go_upto_region 18 with fail
     obtain ⟨g3,hg3⟩:∃ g3,w2'.heap.size=g3:=⟨_,rfl⟩
     obtain ⟨W3,hW⟩:∃ W:World,W=w2'.alloc (.cells #[.slice An n1 cn,.slice Aa n2 ca,.slice Af n3 cf] 34):=⟨_,rfl⟩
     have hA3:Below w2'.heap.size w2' W3:=by rw [hW];exact bA (bR w2') _
     have HX3:=Lib.hid (show Blk W3 g3 34 #[.slice An n1 cn,.slice Aa n2 ca,.slice Af n3 cf] by rw [hW];exact Blk.made hg3.symm _ _)
     have HP3:=Lib.hid (hp2.mono hA3)
     have HW3:=Lib.hid (bT hb2 hA3)
     rw [← hW]
     try rw [hg3]
     clear hW hg3 hA3 hb2 hp2
     go_wp2_with fail
     refine (HBy.out _ HW3.out).mono ?_
     rintro e w4 ⟨v4',rfl,hb4,hp4⟩
     obtain ⟨Bn,dn,Ba,da,Bf,df,hv4⟩:=hp4.open3
     rw [hn1,hn2,hn3] at hv4
     subst hv4
     have HX4:=Lib.hid (HX3.out.keep hb4);have HP4:=Lib.hid (HP3.out.mono hb4);have HW4:=Lib.hid (bT HW3.out hb4)
     go_upto_region 19 with fail
     obtain ⟨g5,hg5⟩:∃ g5,w4.heap.size=g5:=⟨_,rfl⟩
     obtain ⟨W5,hW⟩:∃ W:World,W=w4.alloc (.cells #[.slice Bn n1 dn,.slice Ba n2 da,.slice Bf n3 df] 34):=⟨_,rfl⟩
     have hA5:Below w4.heap.size w4 W5:=by rw [hW];exact bA (bR w4) _
     have HY5:=Lib.hid (show Blk W5 g5 34 #[.slice Bn n1 dn,.slice Ba n2 da,.slice Bf n3 df] by rw [hW];exact Blk.made hg5.symm _ _)
     have HX5:=Lib.hid (HX4.out.keep hA5);have HP5:=Lib.hid (HP4.out.mono hA5);have HQ5:=Lib.hid (PlV.mono hp4 hA5);have HW5:=Lib.hid (bT HW4.out hA5)
     rw [← hW]
     try rw [hg5]
     clear hW hg5 hA5 hb4 hp4 HX4 HP4 HW4 HX3 HP3 HW3 HBx HBy hn1 hn2 hn3
     go_wp2_with fail
     refine (HAw.out _).mono ?_
     rintro e w8 ⟨rfl,hb8⟩
     have X3:=HX5.out.keep hb8
     have X5:=HY5.out.keep hb8
     have HP8:=Lib.hid (HP5.out.mono hb8);have HQ8:=Lib.hid (HQ5.out.mono hb8);have HW8:=Lib.hid (bT HW5.out hb8)
     clear hb8 HX5 HY5 HP5 HQ5 HW5
     obtain ⟨X3l,X3a,X3b,X3c,-,-,-⟩:=X3.facts3
     obtain ⟨X5l,X5a,X5b,X5c,-,-,-⟩:=X5.facts3
     go_wp2_with fail
     refine (HSa.out _ _ P _ HP8.out HQ8.out).mono ?_
     rintro e w9 ⟨rfl,hb9⟩
     have HW9:=Lib.hid (bT HB0.out (bT HW8.out hb9))
     clear hb9 X3 X3l X3a X3b X3c X5 X5l X5a X5b X5c HP8 HQ8 HW8
     go_wp2_with fail
     go_ret
     exact ⟨ret_bool (by simp),HW9.out⟩
    ·
     have hc:fd=false∨(fd=true∧(i:Int)=0)∨(fd=true∧¬ (i:Int)=0∧(i:Int)=(L.length:Int)-1):=by
      cases fd
      · left;rfl
      ·
       right
       by_cases q1:(i:Int)=0
       · left;exact ⟨rfl,q1⟩
       · right;exact ⟨rfl,q1,Decidable.byContradiction fun q2=>hgo ⟨rfl,q1,q2⟩⟩
     clear hgo HF
     rcases hc with rfl | ⟨rfl,q1⟩ | ⟨rfl,q1,q2⟩
     ·
      go_upto_region 14 with fail
      go_wp2_with fail
      refine (HAw.out _).mono ?_
      rintro e w5 ⟨rfl,hb5⟩
      go_wp2_with fail
      go_ret
      exact ⟨rfl,bT HB3.out hb5⟩
     ·
      go_upto_region 14 with fail
      go_wp2_with fail
      refine (HAw.out _).mono ?_
      rintro e w5 ⟨rfl,hb5⟩
      go_wp2_with fail
      go_ret
      exact ⟨rfl,bT HB3.out hb5⟩
     ·
      go_upto_region 14 with fail
      go_wp2_with fail
      refine (HAw.out _).mono ?_
      rintro e w5 ⟨rfl,hb5⟩
      go_wp2_with fail
      go_ret
      exact ⟨rfl,bT HB3.out hb5⟩
end Go.Proofs.YtpempeioeiaijaaGreat
