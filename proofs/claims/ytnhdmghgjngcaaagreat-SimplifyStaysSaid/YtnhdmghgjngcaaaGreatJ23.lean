import Derived.Test.YtnhdmghgjngcaaaGreatJ22
set_option linter.unusedSimpArgs false
set_option linter.unusedVariables false
namespace Go.Proofs.YtnhdmghgjngcaaaGreat
open Go.RowKit

def RetDiv (w:World) (p:Pl) (e:Ending) (w':World):Prop :=
 ∃ A c L,e=.returned (.slice A L.length c)∧Below w.heap.size w w'∧AdT 70 w w' w.heap.size (.slice A L.length c) L∧DivA p L (outX p) (resX p) p.nodes∧TwA p L
def ad0:AD:=⟨0,[],sv0,[],sv0,[],sv0⟩
def outK (p:Pl) (k:Nat):List (List Int):=((cyclesD p).take k).filter (fun X=>decide (0<arX p X))
def resK (p:Pl) (k:Nat):List (List Int):=((cyclesD p).take k).filter (fun X=>!decide (0<arX p X))
theorem outK_succ {p:Pl} {k:Nat} (hk:k<(cyclesD p).length):outK p (k+1)=outK p k++(if 0<arX p (cyclesD p)[k] then [(cyclesD p)[k]] else []):=by
 unfold outK
 rw [List.take_succ_eq_append_getElem hk,List.filter_append,List.filter_cons]
 simp only [decide_eq_true_eq,List.filter_nil]
theorem resK_succ {p:Pl} {k:Nat} (hk:k<(cyclesD p).length):resK p (k+1)=resK p k++(if 0<arX p (cyclesD p)[k] then [] else [(cyclesD p)[k]]):=by
 unfold resK
 rw [List.take_succ_eq_append_getElem hk,List.filter_append,List.filter_cons]
 by_cases h:0<arX p (cyclesD p)[k]<;>simp [h]
theorem outK_all (p:Pl):outK p (cyclesD p).length=outX p:=by unfold outK outX;rw [List.take_length]
theorem resK_all (p:Pl):resK p (cyclesD p).length=resX p:=by unfold resK resX;rw [List.take_length]
theorem getElem_map_fst {CL:List (List Int×SV)} {C:List (List Int)} (h:CL.map (·.1)=C) {k:Nat} (hk:k<CL.length) (hk2:k<C.length):C[k]=CL[k].1:=by
 subst h;rw [List.getElem_map]
theorem take_map_fst {CL:List (List Int×SV)} {C:List (List Int)} (h:CL.map (·.1)=C) {k:Nat} (hk:k<CL.length):C.take (k+1)=C.take k++[CL[k].1]:=by
 subst h
 rw [List.take_succ_eq_append_getElem (by simpa using hk),List.getElem_map]

set_option maxRecDepth 100000 in
set_option maxHeartbeats 8000000 in
theorem Divide_spec (v vc:Value) (p:Pl) (CL:List (List Int×SV)) (gm:Nat) (f:Int→SV) (w:World) (h:PlV w v p) (hv:Valid p) (hc:CyR w vc CL) (hcl:CL.map (·.1)=cyclesD p) (hpm:PathsM w gm p f) :
  Calls Tryz.prog 42 #[v,vc,.map (some gm)] w (RetDiv w p):=by
 have HTw:=Lib.hid (fun u l (hl:l∈cyclesD p) W (hu:Ints W u l) (hW:Below w.heap.size w W)=>show Calls Tryz.prog 61 #[v,u] W fun e w'=>e=.returned (.int .i64 (arX p l))∧Below W.heap.size W w' from by
  have t:=Twice15w_spec v u p l W (h.mono hW) hu hv (fun d hd=>by have:=hv.dart_bd ((hv.cyc_nodup hl).2 d hd);exact wfI_of (by omega) (by omega))
  rw [hv.tw_ar hl] at t
  exact t)
 have HDg:=Lib.hid (fun id W (hW:Below w.heap.size w W)=>Degree_spec v p id W (h.mono hW) (by have:=hv.lim;unfold limS at this;simp only [Bool.or_eq_false_iff,decide_eq_false_iff_not] at this;omega))
 have HFi0:=fun W (hW:Below w.heap.size w W)=>Find_spec W gm p f (hpm.keep hW) hv
 unfold ptV at HFi0
 have HFi:=Lib.hid HFi0
 clear HFi0
 have HPm:=Lib.hid hpm
 have HV:=Lib.hid hv
 have hnl:=hv.nodes_len
 have hcn:=hv.cycs_len
 have hll:CL.length=(cyclesD p).length:=by rw [← hcl,List.length_map]
 have HCl:=Lib.hid hcl;have HLl:=Lib.hid hll
 have HOn:=Lib.hid hv.outX_nodup
 obtain ⟨⟨Ac,cc,rfl,hc1,hc2,hRc⟩,hI⟩:=hc
 obtain ⟨_,_,_,al,rfl,hpa,⟨An,cn,rfl,hn1,hn2,hR⟩,⟨⟨Aa,ca,rfl,-⟩,-⟩,⟨Af,cf,rfl,-⟩⟩:=h
 unfold maxLen at hc2 hn2
 have HRc:=Lib.hid hRc;have HI:=Lib.hid hI;have HRn:=Lib.hid hR
 have hcl2:CL.length≤512:=by omega
 generalize p.faces.length=nf at *
 generalize al.length=na at *
 clear hpa hRc hI hR hv hpm hcl hll hcn
 go_enter Tryz.func42,Tryz.ntmps42
 go_upto_region 2 with fail
 obtain ⟨W1,hW⟩:∃ W:World,W=(w.alloc (.cells #[.slice An p.nodes.length cn,.slice Aa na ca,.slice Af nf cf] 26)).alloc (.cells #[.int .i64 0,.slice none 0 0,.slice none 0 0,.slice none 0 0] 70):=⟨_,rfl⟩
 have X1:Blk W1 w.heap.size 26 #[.slice An p.nodes.length cn,.slice Aa na ca,.slice Af nf cf]:=by rw [hW];exact (Blk.made rfl _ _).alloc _
 have HO1:=Lib.hid (show Own W1 w.heap.size 70 4 adC (.slice (some ⟨w.heap.size+1,0,none⟩) 1 1) [ad0] by rw [hW];exact Own.lit _ _ _ _ _ _ _ _ _ (by simp) rfl (by simp) (le_maxLen (by omega)) rfl rfl)
 have HB1:=Lib.hid (show Below w.heap.size w W1 by rw [hW];exact bA (bA (bR w) _) _)
 rw [← hW]
 clear hW
 have HA1:=Lib.hid (show AdT 70 w W1 w.heap.size (.slice (some ⟨w.heap.size+1,0,none⟩) 1 1) [ad0] from ⟨HO1.out,(fun x hx=>by rw [List.mem_singleton] at hx;subst hx;exact Sl.nil w),(fun x hx=>by rw [List.mem_singleton] at hx;subst hx;exact Own.nil _ _ _ _ _),(fun x hx=>by rw [List.mem_singleton] at hx;subst hx;intro c hc;cases hc),(fun x hx=>by rw [List.mem_singleton] at hx;subst hx;exact Own.nil _ _ _ _ _),List.pairwise_singleton _ _,List.pairwise_singleton _ _⟩)
 have HX1:=Lib.hid X1
 clear X1 HO1
 go_upto_block 0 with fail
 go_wp2_with fail
 go_loopw [7,8,23] (fun s r i wr=>∃ (k:Nat) (L:List AD) (R:List (List Int×SV)),k≤CL.length∧i=.int .i64 k∧(∃ A c,s=.slice A L.length c)∧(∃ A c,r=.slice A R.length c)∧AdT 70 w wr w.heap.size s L∧Own wr w.heap.size 24 1 cyC r R∧DivA p L (outK p k) [] []∧TwA p L∧R.map (·.1)=resK p k∧(∀ x∈R,Ints w (svV x.2) x.1)∧(∀ x∈L,x.iv=sv0)∧L.length≤k+1∧R.length≤k∧Blk wr w.heap.size 26 #[.slice An p.nodes.length cn,.slice Aa na ca,.slice Af nf cf]∧Below w.heap.size w wr) (fun _ _ i _=>CL.length-(intOf i).toNat)
 case atStart => exact ⟨0,[ad0],[],Nat.zero_le _,rfl,⟨_,_,rfl⟩,⟨_,_,rfl⟩,HA1.out,Own.nil _ _ _ _ _,DivA.start p ad0 rfl rfl rfl,TwA.one p ad0,rfl,(fun x hx=>by cases hx),(fun x hx=>by rw [List.mem_singleton] at hx;subst hx;rfl),by simp,by simp,HX1.out,HB1.out⟩
 case round =>
  obtain ⟨k,L,R,hk,rfl,⟨A,c,rfl⟩,⟨A',c',rfl⟩,had,hor,hdv,htw,hrm,hri,hiv,hl1,hl2,X1,hb⟩:=hrel
  obtain ⟨wo,rfl⟩:∃ wo:World,wo=wr:=⟨_,rfl⟩
  have HA:=Lib.hid had;have HO:=Lib.hid hor;have HD:=Lib.hid hdv;have HT:=Lib.hid htw;have HRm:=Lib.hid hrm;have HRi:=Lib.hid hri;have HIv:=Lib.hid hiv;have HX:=Lib.hid X1;have Hb:=Lib.hid hb
  clear had hor hdv htw hrm hri hiv hb HX1 HA1 HB1
  by_cases hlt:k<CL.length
  ·
   have hlc:k<(cyclesD p).length:=by have:=HLl.out;omega
   obtain ⟨b,o,rfl,hlb,c0⟩:=(HRc.out.mono Hb.out).cy hlt
   have hin:=HI.out CL[k] (List.getElem_mem hlt)
   have hmem:(cyclesD p)[k]∈cyclesD p:=List.getElem_mem hlc
   have hos:=outK_succ hlc
   have hrs:=resK_succ hlc
   rw [getElem_map_fst HCl.out hlt hlc] at hmem hos hrs
   generalize CL[k]=x at *
   obtain ⟨l,xs⟩:=x
   obtain ⟨xa,xn,xc⟩:=xs
   simp only at hin c0 hmem hos hrs
   have HIn:=Lib.hid hin
   have HTk:=Lib.hid (fun W (hW:Below w.heap.size w W)=>HTw.out _ l hmem W (hin.mono hW) hW)
   obtain ⟨t,ht⟩:∃ t,arX p l=t:=⟨_,rfl⟩
   rw [ht] at HTk hos hrs
   have HTe:=Lib.hid ht;have HOs:=Lib.hid hos;have HRs:=Lib.hid hrs
   clear hin hmem hlc ht hos hrs
   obtain ⟨X1l,X1a,X1b,X1c,-,-,-⟩:=X1.facts3
   go_upto_region 7 with fail
   go_wp2_with fail
   refine (HTk.out _ Hb.out).mono ?_
   rintro e w2 ⟨rfl,hb2⟩
   have HB2:=Lib.hid (bT Hb.out hb2)
   have HA2:=Lib.hid (HA.out.keep hb2)
   have HO2:=Lib.hid (HO.out.keep hb2)
   have HX2:=Lib.hid (HX.out.keep hb2)
   have hz2:=HB2.out.size
   clear hb2 X1 X1l X1a X1b X1c c0 hlb HTk HA HO HX Hb
   by_cases h0:0<t
   ·
    have hos:=HOs.out;have hrs:=HRs.out
    rw [if_pos h0] at hos hrs
    rw [List.append_nil] at hrs
    have HOs2:=Lib.hid hos;have HRs2:=Lib.hid hrs
    clear hos hrs
    have n1:=Own.ne_blk HA2.out.own HX2.out (by decide)
    go_upto_region 10 with
     (at_builtin
      refine wpList_appl _ rfl (.tmp 32) (.tmp 36) _ rfl (base:=w.heap.size) elem_ad adC_len adC_one rfl (Own.alloc HA2.out.own _) rfl (l2:=[(⟨t,l,⟨xa,xn,xc⟩,[],sv0,[],sv0⟩:AD)]) (Sl.lit (n:=1) (Blk.made rfl _ _) rfl (le_maxLen (by omega))) (by simp only [List.length_cons,List.length_nil];omega) (by simp only [List.length_cons,List.length_nil];omega) (by simp;omega) ?_
      intro v3 w3 ho3 hg3 hat3
      obtain ⟨A3,c3,hv3,-⟩:=Own.shape_ ho3
      have hsh:(L++[(⟨t,l,⟨xa,xn,xc⟩,[],sv0,[],sv0⟩:AD)]).length=L.length+1:=by simp
      rw [hsh] at hv3
      subst hv3
      have HA3:=Lib.hid (AdT.more (by decide) (HA2.out.keep (bA (bR w2) _)) ho3 hg3 HIn.out rfl rfl rfl rfl)
      have HO3:=Lib.hid (Own.grown (Own.alloc HO2.out _) hg3 (fun g hg=>Own.apart HO2.out HA2.out.own (by decide) g hg))
      have HX3:=Lib.hid (Blk.grown (HX2.out.alloc _) hg3 (fun e=>n1 e.symm))
      have HB3:=Lib.hid (bG (bA HB2.out _) hg3 (fun g hg=>(HA2.out.own.lt g hg).1))
      clear ho3 hg3 hat3
      )
    clear n1
    go_wp2_with fail
    go_roundw
    case rel => exact ⟨k+1,_,R,by omega,by go_num,⟨A3,c3,by rw [hsh]⟩,⟨_,_,rfl⟩,HA3.out,HO3.out,by rw [HOs2.out];exact HD.out.more rfl rfl _ rfl rfl,HT.out.more HTe.out.symm,by rw [HRs2.out];exact HRm.out,HRi.out,(fun x hx=>by
      rcases List.mem_append.1 hx with hx | hx
      · exact HIv.out x hx
      · rw [List.mem_singleton] at hx;subst hx;rfl),by rw [hsh];omega,by omega,HX3.out,HB3.out⟩
    case measure => simp [intOf];omega
   ·
    have hos:=HOs.out;have hrs:=HRs.out
    rw [if_neg h0] at hos hrs
    rw [List.append_nil] at hos
    have HOs2:=Lib.hid hos;have HRs2:=Lib.hid hrs
    clear hos hrs
    have n1:=Own.ne_blk HO2.out HX2.out (by decide)
    go_upto_region 10 with
     (at_builtin
      refine wpList_appl _ rfl (.tmp 38) (.tmp 40) _ rfl (base:=w.heap.size) elem_cy cyC_len cyC_one rfl (Own.alloc HO2.out _) rfl (l2:=[((l,⟨xa,xn,xc⟩):List Int×SV)]) (Sl.lit (n:=1) (Blk.made rfl _ _) rfl (le_maxLen (by omega))) (by simp only [List.length_cons,List.length_nil];omega) (by simp only [List.length_cons,List.length_nil];omega) (by simp;omega) ?_
      intro v3 w3 ho3 hg3 hat3
      obtain ⟨A3,c3,hv3,-⟩:=Own.shape_ ho3
      have hsh:(R++[((l,⟨xa,xn,xc⟩):List Int×SV)]).length=R.length+1:=by simp
      rw [hsh] at hv3
      subst hv3
      have HO3:=Lib.hid ho3
      have HA3:=Lib.hid (AdT.grownZ (by decide) (HA2.out.keep (bA (bR w2) _)) hg3 (Own.alloc HO2.out _) HIv.out)
      have HX3:=Lib.hid (Blk.grown (HX2.out.alloc _) hg3 (fun e=>n1 e.symm))
      have HB3:=Lib.hid (bG (bA HB2.out _) hg3 (fun g hg=>(HO2.out.lt g hg).1))
      clear ho3 hg3 hat3
      )
    clear n1
    go_wp2_with fail
    go_roundw
    case rel => exact ⟨k+1,L,_,by omega,by go_num,⟨_,_,rfl⟩,⟨A3,c3,by rw [hsh]⟩,HA3.out,HO3.out,by rw [HOs2.out];exact HD.out,HT.out,by rw [HRs2.out,List.map_append,HRm.out];rfl,(fun x hx=>by
      rcases List.mem_append.1 hx with hx | hx
      · exact HRi.out x hx
      · rw [List.mem_singleton] at hx;subst hx;exact HIn.out),HIv.out,by omega,by rw [hsh];omega,HX3.out,HB3.out⟩
    case measure => simp [intOf];omega
  ·
   have hkk:k=CL.length:=by omega
   subst hkk
   have hd0:=HD.out
   have hd:=HD.out;have hrm:=HRm.out
   rw [HLl.out,outK_all] at hd
   rw [HLl.out,resK_all] at hrm
   have hsep:∀ x∈L,SepV (svV x.iv) (.slice A' R.length c'):=fun x hx=>by rw [HIv.out x hx];intro g hg;cases hg
   have HD3:=Lib.hid hd;have HRm3:=Lib.hid hrm;have HS3:=Lib.hid hsep
   have hl0:0<L.length:=by have:=hd0.len;omega
   clear HD HRm HIv hd hd0 hrm hsep X1 HCl HI HRc HTw
   go_upto_block 2 with fail
   go_wp2_with fail
   go_loopw [45] (fun i wr=>∃ (j:Nat) (L2:List AD),j≤R.length∧i=.int .i64 j∧L2.length=L.length∧AdT 70 w wr w.heap.size (.slice A L.length c) L2∧Own wr w.heap.size 24 1 cyC (.slice A' R.length c') R∧DivA p L2 (outX p) ((resX p).take j) []∧TwA p L2∧(∀ x∈L2,SepV (svV x.iv) (.slice A' R.length c'))∧Blk wr w.heap.size 26 #[.slice An p.nodes.length cn,.slice Aa na ca,.slice Af nf cf]∧Below w.heap.size w wr) (fun i _=>R.length-(intOf i).toNat)
   case atStart => exact ⟨0,L,Nat.zero_le _,rfl,rfl,HA.out,HO.out,by rw [List.take_zero];exact HD3.out,HT.out,HS3.out,HX.out,Hb.out⟩
   case round =>
    clear HA HO HD3 HT HS3 HX Hb
    obtain ⟨j,L2,hj,rfl,hl3,had,hor,hdv,htw,hsp,X1,hb⟩:=hrel
    obtain ⟨wo,rfl⟩:∃ wo:World,wo=wr:=⟨_,rfl⟩
    have HA:=Lib.hid had;have HO:=Lib.hid hor;have HD:=Lib.hid hdv;have HT:=Lib.hid htw;have HS:=Lib.hid hsp;have HX:=Lib.hid X1;have Hb:=Lib.hid hb
    clear had hor hdv htw hsp hb
    by_cases hlj:j<R.length
    ·
     have hrl:=HO.out.lt
     obtain ⟨b,o,hA',hlb,c0⟩:=(HO.out.row_of).cy hlj
     subst hA'
     have htk:=take_map_fst HRm3.out hlj
     have hmem:R[j].1∈resX p:=by rw [← HRm3.out];exact List.mem_map_of_mem (List.getElem_mem hlj)
     have hin:=HRi.out R[j] (List.getElem_mem hlj)
     generalize R[j]=x at *
     obtain ⟨l,xa,xn,xc⟩:=x
     unfold svV at hin
     simp only at hin c0 htk hmem
     have hcm:=(mem_resX.1 hmem).1
     have hne:=HV.out.cyc_ne hcm
     have hkl:0<l.length:=List.length_pos_iff.2 hne
     have hhd:l.headD 0=l[0]:=by
      cases l with
      | nil=>exact absurd rfl hne
      | cons d l'=>rfl
     have hdd:l[0]∈dartsD p:=(HV.out.cyc_nodup hcm).2 _ (List.getElem_mem hkl)
     obtain ⟨a,ha,hor',hpt⟩:=HV.out.pth_dart hdd
     have hcp:cycPt p l=(pathS p a).getD 0 pt0:=by unfold cycPt;rw [hhd,hpt]
     have hid:=HV.out.id_pos ha
     have hlen:2≤(pathS p a).length:=by have:=pathS_length p a;omega
     have hvia:=HV.out.via_len ha
     have hpl:(pathS p a).length≤66:=by have:=pathS_length p a;omega
     have nv:=HV.out.pt_near ha (k:=0) (by omega)
     have h0p:0<(pathS p a).length:=by omega
     have egd:(pathS p a).getD 0 pt0=(pathS p a)[0]:=by simp only [List.getD_eq_getElem?_getD,List.getElem?_eq_getElem h0p,Option.getD_some]
     rw [egd] at hcp nv
     obtain ⟨n,hmp⟩:=(HPm.out.keep Hb.out).mp
     have hlk:=(hmp.keep (bD (bR wo))).look a.id (wfI_of (by omega) (by omega))
     have hpts:=HPm.out.rd a ha
     have k1:IntKind.i64.wrap (-l[0])=-l[0]:=IntWalk.i64_in _ (by omega)
     have km:max l[0] (-l[0])=a.id:=by omega
     have HIn:=Lib.hid hin
     obtain ⟨Al,cl,hel,-,-,hRl⟩:=hin.mono Hb.out
     injection hel with y1 y2 y3
     subst y1 y2 y3
     obtain ⟨bl,ol,hbl',hlbl,d0⟩:=(hRl).int hkl
     subst hbl'
     simp only [Nat.add_zero] at d0
     have kz:(0:Int)<l.length:=by omega
     have kn:¬ l=[]:=hne
     generalize f a.id=y at *
     obtain ⟨Ap,np,cp⟩:=y
     unfold svV at hlk hpts
     have HPts:=Lib.hid hpts
     obtain ⟨Ap',cp',he,hp1,hp2,-⟩:=hpts
     injection he with y1 y2 y3
     subst y1 y2 y3
     unfold maxLen at hp2
     have HTk:=Lib.hid htk;have HCp:=Lib.hid hcp;have HNv:=Lib.hid nv;have HKn:=Lib.hid hkl
     clear hmp hdd htk hmem hpt hor' ha hvia hcm hhd hne hcp nv egd
     generalize a.id=ai at *
     generalize pathS p a=P at *
     generalize l[0]=dd at *
     clear hid
     go_upto_region 14 with fail
     refine rg_start (Since wo) (.run 9 0 0 (.call 9 1023 (.take 10 2047 (.done)))) (by kernel_rfl) (bD (bR _)) (by kernel_rfl) (by kernel_rfl) (Nat.le_of_ble_eq_true (by kernel_rfl)) ?_
     intro opsR QR Hops HQrg hS
     iterate 9
      apply rg_p;exact Hops;exact rfl;exact hS;exact rfl
      · intro _ hqc;go_simp;try rfl
      try simp only [pu]
     refine rg_call (i:=9) (get_of Hops rfl) (fun K hK=>?_)
     have HSrg:=Lib.hid hS;clear hS
     refine rg_run (wanted_plain rfl) ?_
     go_simp
     refine hK.out _ _ HSrg.out (fun hS=>?_)
     clear hK K HSrg
     try simp only [pu]
     apply rg_p;exact Hops;exact rfl;exact hS;exact rfl
     · intro _ hqc;go_simp;try rfl
     try simp only [pu]
     refine rg_done ?_
     refine HQrg.down _ _ ?_
     have hB:Below wo.heap.size wo wo.drew:=hS
     clear hS HQrg Hops
     obtain ⟨W3,hW3⟩:∃ W:World,W=wo.drew:=⟨_,rfl⟩
     rw [← hW3] at hB ⊢
     have HB3:=Lib.hid (bT Hb.out hB)
     have HA3:=Lib.hid (HA.out.keep hB)
     have HO3:=Lib.hid (HO.out.keep hB)
     have HX3:=Lib.hid (HX.out.keep hB)
     clear hW3 hB HA HO HX Hb c0 d0 hlk k1 km hlb hlbl X1
     obtain ⟨Ap',cp',he,-,-,hRp⟩:=HPts.out.mono HB3.out
     injection he with y1 y2 y3
     subst y1 y3
     clear y2
     obtain ⟨bp,op,hAp,hlp,e10,e11⟩:=(hRp).pt h0p
     subst hAp
     simp only [Nat.zero_mul,Nat.add_zero] at e10 e11
     clear hRp
     have kz2:(0:Int)<P.length:=by omega
     have kn2:¬ P=[]:=fun e=>by rw [e] at h0p;simp at h0p
     have HF:=Lib.hid (HFi.out W3 HB3.out (.slice A L.length c) L2 (HA3.out.read HB3.out) (fun x hx d hd=>by
      rcases HD.out.out_mem hx with e | e
      · rw [e] at hd;cases hd
      · exact (HV.out.cyc_nodup (mem_outX.1 e).1).2 d hd) (by omega) P[0] HNv.out)
     go_wp2_with fail
     refine HF.out.mono ?_
     rintro e w4 ⟨⟨bb,rfl,hbx⟩,hb4⟩
     obtain ⟨hbl,hhm⟩:=HD.out.home rfl HT.out hbx
     rw [← HCp.out] at hhm
     have HHm:=Lib.hid hhm
     have HB4:=Lib.hid (bT HB3.out hb4)
     have HA4:=Lib.hid (HA3.out.keep hb4)
     have HO4:=Lib.hid (HO3.out.keep hb4)
     have HX4:=Lib.hid (HX3.out.keep hb4)
     have hrl4:=hb4.size
     clear hb4 HF HB3 HA3 HO3 HX3 e10 e11 kz2 kn2 hbx hhm HPts HNv HCp hlp kz kn
     obtain ⟨g,hA2,hg0,hgl,-,hce⟩:=Own.ad_cell HA4.out.own (by omega)
     subst hA2
     obtain ⟨-,-,e2,-⟩:=hce bb hbl
     have hinn:=HA4.out.inn _ (List.getElem_mem hbl)
     have hse:=HS.out _ (List.getElem_mem hbl)
     have hNl:L2[bb].inn.length≤512:=by
      have:=congrArg List.length (HD.out.inn bb hbl)
      rw [List.length_map] at this
      rw [this]
      exact Nat.le_trans (List.length_filter_le _ _) (by rw [List.length_take];omega)
     obtain ⟨iv,hiv⟩:∃ iv,L2[bb].iv=iv:=⟨_,rfl⟩
     obtain ⟨N,hN⟩:∃ N,L2[bb].inn=N:=⟨_,rfl⟩
     rw [hiv,hN] at hinn
     rw [hiv] at e2 hse
     rw [hN] at hNl
     obtain ⟨ia,in_,ic⟩:=iv
     unfold svV at hinn e2 hse
     have HIv2:=Lib.hid hiv;have HN2:=Lib.hid hN;have HSe:=Lib.hid hse;have HInn:=Lib.hid hinn
     clear hiv hN hce hse hinn
     have kb1:(bb:Int)<L.length:=by omega
     have kb2:0≤(bb:Int):=by omega
     have hsh:(N++[((l,⟨some ⟨bl,ol,none⟩,l.length,xc⟩):List Int×SV)]).length=N.length+1:=by simp
     have HSh:=Lib.hid hsh
     clear hsh
     go_upto_region 17 with
      (at_builtin
       refine wpList_appl _ rfl (.tmp 71) (.tmp 73) _ rfl (base:=w.heap.size) elem_cy cyC_len cyC_one rfl (Own.alloc HInn.out _) rfl (l2:=[((l,⟨some ⟨bl,ol,none⟩,l.length,xc⟩):List Int×SV)]) (Sl.lit (n:=1) (Blk.made rfl _ _) rfl (le_maxLen (by omega))) (by simp only [List.length_cons,List.length_nil];omega) (by simp only [List.length_cons,List.length_nil];omega) (by have:=HB4.out.size;simp;omega) ?_
       intro v5 w5 ho5 hg5 hat5
       obtain ⟨A5,c5,hv5,-⟩:=Own.shape_ ho5
       rw [HSh.out] at hv5
       subst hv5
       have hown5:=Own.grown (Own.alloc HA4.out.own _) hg5 (fun g hg=>Own.apart HA4.out.own HInn.out (by decide) g hg)
       obtain ⟨g',hg',-,hgl5,hfz5,hce5⟩:=Own.ad_cell hown5 (by omega)
       injection hg' with hg'
       injection hg' with hg' _ _
       subst hg'
       obtain ⟨-,-,f2,-⟩:=hce5 bb hbl
       have hf2:=hfz5 (bb*4+2)
       have HA5:=Lib.hid (AdT.setInn (by decide) (HA4.out.keep (bA (bR w4) _)) hbl (iv':=⟨A5,N.length+1,c5⟩) (c:=(l,⟨some ⟨bl,ol,none⟩,l.length,xc⟩)) (by rw [HN2.out];exact ho5) (by rw [HIv2.out];exact hg5) (by rw [HIv2.out];exact hat5) HIn.out)
       have HO5:=Lib.hid (Own.far (p:=⟨g,bb*4+2,none⟩) (Own.grown (Own.alloc HO4.out _) hg5 (fun q hq e=>HSe.out q e.symm hq)) (fun e=>Own.apart HO4.out HA4.out.own (by decide) g e rfl) (.slice A5 (N.length+1) c5))
       have HX5:=Lib.hid (Blk.far (p:=⟨g,bb*4+2,none⟩) (Blk.grown (HX4.out.alloc _) hg5 (fun e=>Own.ne_blk HInn.out HX4.out (by decide) e.symm)) (fun e=>Own.ne_blk HA4.out.own HX4.out (by decide) (by rw [e];rfl)) (.slice A5 (N.length+1) c5))
       have HB5:=Lib.hid (bS (p:=⟨g,bb*4+2,none⟩) (bG (bA HB4.out _) hg5 (fun g hg=>(HInn.out.lt g hg).1)) hg0 (.slice A5 (N.length+1) c5))
       have HS5:=Lib.hid (show SepV (.slice A5 (N.length+1) c5) (.slice (some ⟨b,o,none⟩) R.length c') from fun q hq e=>by
        rcases hat5 with h | h
        · exact HSe.out q (h.symm.trans hq) e
        ·
         have h1:=(HO4.out.lt q e).2
         rw [hq] at h
         have:=Option.some.inj h
         simp at this
         omega)
       clear ho5 hg5 hat5 hown5 hce5 hfz5 e2
       )
     clear f2 hf2 HA4 HO4 HX4 HB4 HInn HSe hgl hgl5
     go_wp2_with fail
     go_roundw
     case rel => exact ⟨j+1,_,by omega,by go_num,by rw [List.length_set];exact hl3,HA5.out,HO5.out,by rw [HTk.out];exact HD.out.inner HOn.out hbl l ⟨some ⟨bl,ol,none⟩,l.length,xc⟩ ⟨A5,N.length+1,c5⟩ HHm.out,HT.out.set hbl rfl rfl,(fun x hx=>by
       rcases mem_set_at hx with ⟨rfl,_⟩ | ⟨q,hq,_,rfl⟩
       · exact HS5.out
       · exact HS.out _ (List.getElem_mem hq)),HX5.out,HB5.out⟩
     case measure => simp [intOf];omega
    ·
     have hjj:j=R.length:=by omega
     subst hjj
     have hrl:R.length=(resX p).length:=by rw [← HRm3.out,List.length_map]
     have hd:=HD.out
     rw [hrl,List.take_length] at hd
     have HD6:=Lib.hid hd
     clear HD HS HO hd hrl X1
     have X1:=HX.out
     try clear X1l
     try clear X1a
     try clear X1b
     try clear X1c
     obtain ⟨X1l,X1a,X1b,X1c,-,-,-⟩:=X1.facts3
     go_upto_block 4 with fail
     clear X1 X1l X1a X1b X1c
     go_wp2_with fail
     go_loopw [81] (fun i wr=>∃ (k:Nat) (L3:List AD),k≤p.nodes.length∧i=.int .i64 k∧L3.length=L.length∧AdT 70 w wr w.heap.size (.slice A L.length c) L3∧DivA p L3 (outX p) (resX p) (p.nodes.take k)∧TwA p L3∧Blk wr w.heap.size 26 #[.slice An p.nodes.length cn,.slice Aa na ca,.slice Af nf cf]∧Below w.heap.size w wr) (fun i _=>p.nodes.length-(intOf i).toNat)
     case atStart => exact ⟨0,L2,Nat.zero_le _,rfl,hl3,HA.out,by rw [List.take_zero];exact HD6.out,HT.out,HX.out,Hb.out⟩
     case round =>
      clear HA HD6 HT HX Hb
      obtain ⟨k,L3,hk,rfl,hl4,had,hdv,htw,X1,hb⟩:=hrel
      obtain ⟨wo,rfl⟩:∃ wo:World,wo=wr:=⟨_,rfl⟩
      have HA:=Lib.hid had;have HD:=Lib.hid hdv;have HT:=Lib.hid htw;have HX:=Lib.hid X1;have Hb:=Lib.hid hb
      clear had hdv htw hb
      by_cases hlk:k<p.nodes.length
      ·
       obtain ⟨b,o,rfl,hlb,c0,c1,c2'⟩:=(HRn.out.mono Hb.out).nd hlk
       have htk:p.nodes.take (k+1)=p.nodes.take k++[p.nodes[k]]:=List.take_succ_eq_append_getElem hlk
       have nv:=HV.out.node_near (List.getElem_mem hlk)
       generalize p.nodes[k]=nd at *
       have HTk:=Lib.hid htk;have HNv:=Lib.hid nv
       have HDk:=Lib.hid (fun W (hW:Below w.heap.size w W)=>HDg.out nd.id W hW)
       have HPs:=Lib.hid (fun h0=>HD.out.pass nd h0)
       clear htk nv
       obtain ⟨dg,hdg⟩:∃ dg,degS p.arcs nd.id=dg:=⟨_,rfl⟩
       rw [hdg] at HDk HPs
       have HDe:=Lib.hid hdg
       clear hdg
       go_upto_region 21 with fail
       obtain ⟨W2,hW⟩:∃ W:World,W=wo.alloc (.cells #[.int .i64 nd.id,.int .i64 nd.pt.x,.int .i64 nd.pt.y] 38):=⟨_,rfl⟩
       have hA:Below wo.heap.size wo W2:=by rw [hW];exact bA (bR wo) _
       have X5:Blk W2 wo.heap.size 38 #[.int .i64 nd.id,.int .i64 nd.pt.x,.int .i64 nd.pt.y]:=by rw [hW];exact Blk.made rfl _ _
       replace X1:=X1.keep hA
       have HA2:=Lib.hid (HA.out.keep hA);have HX2:=Lib.hid X1;have HX5:=Lib.hid X5
       have HB2:=Lib.hid (bT Hb.out hA)
       have hz2:=Hb.out.size
       rw [← hW]
       clear hW hA HA HX Hb c0 c1 c2' hlb
       obtain ⟨g5,hg5⟩:∃ g5,wo.heap.size=g5:=⟨_,rfl⟩
       rw [hg5] at HX5 X5 hz2 ⊢
       clear hg5
       try clear X1l
       try clear X1a
       try clear X1b
       try clear X1c
       obtain ⟨X1l,X1a,X1b,X1c,-,-,-⟩:=X1.facts3
       obtain ⟨X5l,X5a,X5b,X5c,-,-,-⟩:=X5.facts3
       go_wp2_with fail
       refine (HDk.out _ HB2.out).mono ?_
       rintro e w3 ⟨rfl,hb3⟩
       have HB3:=Lib.hid (bT HB2.out hb3)
       have HA3:=Lib.hid (HA2.out.keep hb3)
       have HX3:=Lib.hid (HX2.out.keep hb3)
       have X5':=HX5.out.keep hb3
       have HX53:=Lib.hid X5'
       clear hb3 X1 X1l X1a X1b X1c X5 X5l X5a X5b X5c HDk HA2 HX2 HX5 HB2
       by_cases h0:dg=0
       ·
        subst h0
        have X5:=X5'
        clear X5' HPs
        try clear X5l
        try clear X5a
        try clear X5b
        try clear X5c
        obtain ⟨X5l,X5a,X5b,X5c,-,-,-⟩:=X5.facts3
        have HF:=Lib.hid (HFi.out w3 HB3.out (.slice A L.length c) L3 (HA3.out.read HB3.out) (fun x hx d hd=>by
         rcases HD.out.out_mem hx with e | e
         · rw [e] at hd;cases hd
         · exact (HV.out.cyc_nodup (mem_outX.1 e).1).2 d hd) (by omega) nd.pt HNv.out)
        go_wp2_with fail
        refine HF.out.mono ?_
        rintro e w4 ⟨⟨bb,rfl,hbx⟩,hb4⟩
        obtain ⟨hbl,hhm⟩:=HD.out.home rfl HT.out hbx
        have HHm:=Lib.hid hhm
        have HB4:=Lib.hid (bT HB3.out hb4)
        have HA4:=Lib.hid (HA3.out.keep hb4)
        have HX4:=Lib.hid (HX3.out.keep hb4)
        have HX54:=Lib.hid (HX53.out.keep hb4)
        have hz4:=hb4.size
        clear hb4 HF HB3 HA3 HX3 HX53 X5 X5l X5a X5b X5c hbx hhm
        obtain ⟨g,hA2,hg0,hgl,-,hce⟩:=Own.ad_cell HA4.out.own (by omega)
        subst hA2
        obtain ⟨-,-,-,e2⟩:=hce bb hbl
        have hinn:=HA4.out.alo _ (List.getElem_mem hbl)
        have hNl:L3[bb].alo.length≤256:=by
         rw [HD.out.alo bb hbl,List.length_map]
         exact Nat.le_trans (List.length_filter_le _ _) (by rw [List.length_take];omega)
        obtain ⟨iv,hiv⟩:∃ iv,L3[bb].av=iv:=⟨_,rfl⟩
        obtain ⟨N,hN⟩:∃ N,L3[bb].alo=N:=⟨_,rfl⟩
        rw [hiv,hN] at hinn
        rw [hiv] at e2
        rw [hN] at hNl
        obtain ⟨ia,in_,ic⟩:=iv
        unfold svV at hinn e2
        have HIv2:=Lib.hid hiv;have HN2:=Lib.hid hN;have HInn:=Lib.hid hinn
        clear hiv hN hce hinn
        have kb1:(bb:Int)<L.length:=by omega
        have kb2:0≤(bb:Int):=by omega
        have hsh:(N++[nd.id]).length=N.length+1:=by simp
        have HSh:=Lib.hid hsh
        clear hsh
        have X5:=HX54.out
        try clear X5l
        try clear X5a
        try clear X5b
        try clear X5c
        obtain ⟨X5l,X5a,X5b,X5c,-,-,-⟩:=X5.facts3
        have hz5:w.heap.size≤w4.heap.size:=HB4.out.size
        go_upto_region 23 with fail
        refine rg_start (SinceB (w.heap.size) w4) (.run 6 0 0 (.take 7 191 (.two 6 255 (.call 8 511 (.call 9 1023 (.call 10 2047 (.take 11 4095 (.take 12 8191 (.call 13 16383 (.done))))))) 8 447 (.two 6 511 (.call 9 1023 (.call 10 2047 (.take 11 4095 (.take 12 8191 (.call 13 16383 (.done)))))) 9 959 (.call 6 1023 (.call 10 2047 (.take 11 4095 (.take 12 8191 (.call 13 16383 (.done)))))))))) (by kernel_rfl) (Below.drew (Below.refl _ _)) (by kernel_rfl) (by kernel_rfl) (Nat.le_of_ble_eq_true (by kernel_rfl)) ?_
        intro opsR QR Hops HQrg hS
        iterate 7
         apply rg_pB;exact Hops;exact rfl;exact hS;exact rfl
         · intro _ hqc;go_simp;try rfl
         try simp only [pu]
        refine rg_two (i:=6) (j:=8) (get_of Hops rfl) (get_of Hops rfl) (fun K hK=>?_) (fun K hK=>?_)
        ·
         have HSrg:=Lib.hid hS;clear hS
         refine rg_run (wanted_plain rfl) ?_
         go_simp
         refine hK.out _ _ HSrg.out (fun hS=>?_)
         clear hK K HSrg
         try simp only [pu]
         refine rg_call (i:=8) (get_of Hops rfl) (fun K hK=>?_)
         have HSrg:=Lib.hid hS;clear hS
         refine rg_run (wanted_plain rfl) ?_
         go_simp
         refine hK.out _ _ HSrg.out (fun hS=>?_)
         clear hK K HSrg
         try simp only [pu]
         refine rg_call (i:=9) (get_of Hops rfl) (fun K hK=>?_)
         have HSrg:=Lib.hid hS;clear hS
         refine rg_run (wanted_plain rfl) ?_
         go_simp
         refine hK.out _ _ (bAB (by omega) HSrg.out _) (fun hS=>?_)
         clear hK K HSrg
         try simp only [pu]
         refine rg_call (i:=10) (get_of Hops rfl) (fun K hK=>?_)
         have HSrg:=Lib.hid hS;clear hS
         refine rg_run (wanted_plain rfl) ?_
         refine wp_appl (.tmp 101) (.tmp 104) _ rfl (base:=w.heap.size) elem_in inC_len inC_one rfl ((HInn.out.keep (bD (bR w4))).alloc _) rfl (l2:=[nd.id]) (Sl.lit (n:=1) (Blk.made rfl _ _) rfl (le_maxLen (by omega))) (by simp only [List.length_cons,List.length_nil];omega) (by simp only [List.length_cons,List.length_nil];omega) (by simp;omega) ?_
         intro v5 w5 ho5 hg5 hat5
         obtain ⟨A5,c5,hv5,-⟩:=Own.shape_ ho5
         rw [HSh.out] at hv5
         subst hv5
         have hown5:=Own.grown ((HA4.out.own.keep (bD (bR w4))).alloc _) hg5 (fun g hg=>Own.apart HA4.out.own HInn.out (by decide) g hg)
         obtain ⟨g',hg',-,hgl5,hfz5,hce5⟩:=Own.ad_cell hown5 (by omega)
         injection hg' with hg'
         injection hg' with hg' _ _
         subst hg'
         obtain ⟨-,-,-,f2⟩:=hce5 bb hbl
         have hf2:=hfz5 (bb*4+3)
         have HA5:=Lib.hid (AdT.setAlo (by decide) (HA4.out.keep (bA (bD (bR w4)) _)) hbl (av':=⟨A5,N.length+1,c5⟩) (c:=nd.id) (by rw [HN2.out];exact ho5) (by rw [HIv2.out];exact hg5) (by rw [HIv2.out];exact hat5))
         have HX5:=Lib.hid (Blk.far (p:=⟨g,bb*4+3,none⟩) (Blk.grown ((HX4.out.drew).alloc _) hg5 (fun e=>Own.ne_blk HInn.out HX4.out (by decide) e.symm)) (fun e=>Own.ne_blk HA4.out.own HX4.out (by decide) (by rw [e];rfl)) (.slice A5 (N.length+1) c5))
         have HB5:=Lib.hid (bS (p:=⟨g,bb*4+3,none⟩) (bG (bA (bD HB4.out) _) hg5 (fun g hg=>(HInn.out.lt g hg).1)) hg0 (.slice A5 (N.length+1) c5))
         have hS:SinceB (w.heap.size) w4 w5:=Below.grown (show Below w.heap.size w4 _ from HSrg.out) hg5 (Nat.le_trans hz5 (show Below w.heap.size w4 _ from HSrg.out).size) (fun g hg=>(HInn.out.lt g hg).1)
         clear ho5 hg5 hat5 hown5 hce5 hfz5 e2
         clear HSrg
         refine hK.out _ _ hS (fun _=>?_)
         clear hK K
         try simp only [pu]
         iterate 2
          apply rg_pB;exact Hops;exact rfl;exact hS;exact rfl
          · intro _ hqc;go_simp;try rfl
          try simp only [pu]
         refine rg_call (i:=13) (get_of Hops rfl) (fun K hK=>?_)
         have HSrg:=Lib.hid hS;clear hS
         refine rg_run (wanted_plain rfl) ?_
         go_simp
         refine hK.out _ _ (by unfold SinceB;have h:Below _ _ _:=HSrg.out;repeat (first | with_reducible assumption | with_reducible exact Below.refl _ _ | with_reducible refine bSB ?_ (by first | omega | (simp;omega)) _ | with_reducible refine Below.drew ?_ | with_reducible refine bAB (by omega) ?_ _ | exact h)) ?_
         intro hS
         clear hK K HSrg
         try simp only [pu]
         refine rg_done ?_
         refine HQrg.down _ _ ?_
         have hB:Below (w.heap.size) w4 _:=hS
         clear hS HQrg Hops
         go_wp2_with fail
         go_roundw
         case rel => exact ⟨k+1,_,by omega,by go_num,by rw [List.length_set];exact hl4,HA5.out,by rw [HTk.out];exact HD.out.lone HOn.out hbl nd ⟨A5,N.length+1,c5⟩ HDe.out HHm.out,HT.out.set hbl rfl rfl,HX5.out,HB5.out⟩
         case measure => simp [intOf];omega
        ·
         have HSrg:=Lib.hid hS;clear hS
         refine rg_run (wanted_plain rfl) ?_
         go_simp
         refine hK.out _ _ HSrg.out (fun hS=>?_)
         clear hK K HSrg
         try simp only [pu]
         refine rg_two (i:=6) (j:=9) (get_of Hops rfl) (get_of Hops rfl) (fun K hK=>?_) (fun K hK=>?_)
         ·
          have HSrg:=Lib.hid hS;clear hS
          refine rg_run (wanted_plain rfl) ?_
          go_simp
          refine hK.out _ _ HSrg.out (fun hS=>?_)
          clear hK K HSrg
          try simp only [pu]
          refine rg_call (i:=9) (get_of Hops rfl) (fun K hK=>?_)
          have HSrg:=Lib.hid hS;clear hS
          refine rg_run (wanted_plain rfl) ?_
          go_simp
          refine hK.out _ _ (bAB (by omega) HSrg.out _) (fun hS=>?_)
          clear hK K HSrg
          try simp only [pu]
          refine rg_call (i:=10) (get_of Hops rfl) (fun K hK=>?_)
          have HSrg:=Lib.hid hS;clear hS
          refine rg_run (wanted_plain rfl) ?_
          refine wp_appl (.tmp 101) (.tmp 104) _ rfl (base:=w.heap.size) elem_in inC_len inC_one rfl ((HInn.out.keep (bD (bR w4))).alloc _) rfl (l2:=[nd.id]) (Sl.lit (n:=1) (Blk.made rfl _ _) rfl (le_maxLen (by omega))) (by simp only [List.length_cons,List.length_nil];omega) (by simp only [List.length_cons,List.length_nil];omega) (by simp;omega) ?_
          intro v5 w5 ho5 hg5 hat5
          obtain ⟨A5,c5,hv5,-⟩:=Own.shape_ ho5
          rw [HSh.out] at hv5
          subst hv5
          have hown5:=Own.grown ((HA4.out.own.keep (bD (bR w4))).alloc _) hg5 (fun g hg=>Own.apart HA4.out.own HInn.out (by decide) g hg)
          obtain ⟨g',hg',-,hgl5,hfz5,hce5⟩:=Own.ad_cell hown5 (by omega)
          injection hg' with hg'
          injection hg' with hg' _ _
          subst hg'
          obtain ⟨-,-,-,f2⟩:=hce5 bb hbl
          have hf2:=hfz5 (bb*4+3)
          have HA5:=Lib.hid (AdT.setAlo (by decide) (HA4.out.keep (bA (bD (bR w4)) _)) hbl (av':=⟨A5,N.length+1,c5⟩) (c:=nd.id) (by rw [HN2.out];exact ho5) (by rw [HIv2.out];exact hg5) (by rw [HIv2.out];exact hat5))
          have HX5:=Lib.hid (Blk.far (p:=⟨g,bb*4+3,none⟩) (Blk.grown ((HX4.out.drew).alloc _) hg5 (fun e=>Own.ne_blk HInn.out HX4.out (by decide) e.symm)) (fun e=>Own.ne_blk HA4.out.own HX4.out (by decide) (by rw [e];rfl)) (.slice A5 (N.length+1) c5))
          have HB5:=Lib.hid (bS (p:=⟨g,bb*4+3,none⟩) (bG (bA (bD HB4.out) _) hg5 (fun g hg=>(HInn.out.lt g hg).1)) hg0 (.slice A5 (N.length+1) c5))
          have hS:SinceB (w.heap.size) w4 w5:=Below.grown (show Below w.heap.size w4 _ from HSrg.out) hg5 (Nat.le_trans hz5 (show Below w.heap.size w4 _ from HSrg.out).size) (fun g hg=>(HInn.out.lt g hg).1)
          clear ho5 hg5 hat5 hown5 hce5 hfz5 e2
          clear HSrg
          refine hK.out _ _ hS (fun _=>?_)
          clear hK K
          try simp only [pu]
          iterate 2
           apply rg_pB;exact Hops;exact rfl;exact hS;exact rfl
           · intro _ hqc;go_simp;try rfl
           try simp only [pu]
          refine rg_call (i:=13) (get_of Hops rfl) (fun K hK=>?_)
          have HSrg:=Lib.hid hS;clear hS
          refine rg_run (wanted_plain rfl) ?_
          go_simp
          refine hK.out _ _ (by unfold SinceB;have h:Below _ _ _:=HSrg.out;repeat (first | with_reducible assumption | with_reducible exact Below.refl _ _ | with_reducible refine bSB ?_ (by first | omega | (simp;omega)) _ | with_reducible refine Below.drew ?_ | with_reducible refine bAB (by omega) ?_ _ | exact h)) ?_
          intro hS
          clear hK K HSrg
          try simp only [pu]
          refine rg_done ?_
          refine HQrg.down _ _ ?_
          have hB:Below (w.heap.size) w4 _:=hS
          clear hS HQrg Hops
          go_wp2_with fail
          go_roundw
          case rel => exact ⟨k+1,_,by omega,by go_num,by rw [List.length_set];exact hl4,HA5.out,by rw [HTk.out];exact HD.out.lone HOn.out hbl nd ⟨A5,N.length+1,c5⟩ HDe.out HHm.out,HT.out.set hbl rfl rfl,HX5.out,HB5.out⟩
          case measure => simp [intOf];omega
         ·
          have HSrg:=Lib.hid hS;clear hS
          refine rg_run (wanted_plain rfl) ?_
          go_simp
          refine hK.out _ _ (bAB (by omega) HSrg.out _) (fun hS=>?_)
          clear hK K HSrg
          try simp only [pu]
          refine rg_call (i:=6) (get_of Hops rfl) (fun K hK=>?_)
          have HSrg:=Lib.hid hS;clear hS
          refine rg_run (wanted_plain rfl) ?_
          go_simp
          refine hK.out _ _ HSrg.out (fun hS=>?_)
          clear hK K HSrg
          try simp only [pu]
          refine rg_call (i:=10) (get_of Hops rfl) (fun K hK=>?_)
          have HSrg:=Lib.hid hS;clear hS
          refine rg_run (wanted_plain rfl) ?_
          refine wp_appl (.tmp 101) (.tmp 104) _ rfl (base:=w.heap.size) elem_in inC_len inC_one rfl ((HInn.out.keep (bD (bR w4))).alloc _) rfl (l2:=[nd.id]) (Sl.lit (n:=1) (Blk.made rfl _ _) rfl (le_maxLen (by omega))) (by simp only [List.length_cons,List.length_nil];omega) (by simp only [List.length_cons,List.length_nil];omega) (by simp;omega) ?_
          intro v5 w5 ho5 hg5 hat5
          obtain ⟨A5,c5,hv5,-⟩:=Own.shape_ ho5
          rw [HSh.out] at hv5
          subst hv5
          have hown5:=Own.grown ((HA4.out.own.keep (bD (bR w4))).alloc _) hg5 (fun g hg=>Own.apart HA4.out.own HInn.out (by decide) g hg)
          obtain ⟨g',hg',-,hgl5,hfz5,hce5⟩:=Own.ad_cell hown5 (by omega)
          injection hg' with hg'
          injection hg' with hg' _ _
          subst hg'
          obtain ⟨-,-,-,f2⟩:=hce5 bb hbl
          have hf2:=hfz5 (bb*4+3)
          have HA5:=Lib.hid (AdT.setAlo (by decide) (HA4.out.keep (bA (bD (bR w4)) _)) hbl (av':=⟨A5,N.length+1,c5⟩) (c:=nd.id) (by rw [HN2.out];exact ho5) (by rw [HIv2.out];exact hg5) (by rw [HIv2.out];exact hat5))
          have HX5:=Lib.hid (Blk.far (p:=⟨g,bb*4+3,none⟩) (Blk.grown ((HX4.out.drew).alloc _) hg5 (fun e=>Own.ne_blk HInn.out HX4.out (by decide) e.symm)) (fun e=>Own.ne_blk HA4.out.own HX4.out (by decide) (by rw [e];rfl)) (.slice A5 (N.length+1) c5))
          have HB5:=Lib.hid (bS (p:=⟨g,bb*4+3,none⟩) (bG (bA (bD HB4.out) _) hg5 (fun g hg=>(HInn.out.lt g hg).1)) hg0 (.slice A5 (N.length+1) c5))
          have hS:SinceB (w.heap.size) w4 w5:=Below.grown (show Below w.heap.size w4 _ from HSrg.out) hg5 (Nat.le_trans hz5 (show Below w.heap.size w4 _ from HSrg.out).size) (fun g hg=>(HInn.out.lt g hg).1)
          clear ho5 hg5 hat5 hown5 hce5 hfz5 e2
          clear HSrg
          refine hK.out _ _ hS (fun _=>?_)
          clear hK K
          try simp only [pu]
          iterate 2
           apply rg_pB;exact Hops;exact rfl;exact hS;exact rfl
           · intro _ hqc;go_simp;try rfl
           try simp only [pu]
          refine rg_call (i:=13) (get_of Hops rfl) (fun K hK=>?_)
          have HSrg:=Lib.hid hS;clear hS
          refine rg_run (wanted_plain rfl) ?_
          go_simp
          refine hK.out _ _ (by unfold SinceB;have h:Below _ _ _:=HSrg.out;repeat (first | with_reducible assumption | with_reducible exact Below.refl _ _ | with_reducible refine bSB ?_ (by first | omega | (simp;omega)) _ | with_reducible refine Below.drew ?_ | with_reducible refine bAB (by omega) ?_ _ | exact h)) ?_
          intro hS
          clear hK K HSrg
          try simp only [pu]
          refine rg_done ?_
          refine HQrg.down _ _ ?_
          have hB:Below (w.heap.size) w4 _:=hS
          clear hS HQrg Hops
          go_wp2_with fail
          go_roundw
          case rel => exact ⟨k+1,_,by omega,by go_num,by rw [List.length_set];exact hl4,HA5.out,by rw [HTk.out];exact HD.out.lone HOn.out hbl nd ⟨A5,N.length+1,c5⟩ HDe.out HHm.out,HT.out.set hbl rfl rfl,HX5.out,HB5.out⟩
          case measure => simp [intOf];omega
       ·
        have h1:(dg == 0)=false:=by simpa using h0
        have HPq:=Lib.hid (HPs.out h0)
        clear h0 X5' HPs
        go_wp2_with fail
        go_roundw
        case rel => exact ⟨k+1,L3,by omega,by go_num,hl4,HA3.out,by rw [HTk.out];exact HPq.out,HT.out,HX3.out,HB3.out⟩
        case measure => simp [intOf];omega
      ·
       have hkk:k=p.nodes.length:=by omega
       subst hkk
       have hd:=HD.out
       rw [List.take_length] at hd
       have HDf:=Lib.hid hd
       clear hd X1
       go_wp2_with fail
       go_ret
       exact ⟨A,c,L3,by rw [hl4];rfl,Hb.out,by rw [hl4];exact HA.out,HDf.out,HT.out⟩
end Go.Proofs.YtnhdmghgjngcaaaGreat
