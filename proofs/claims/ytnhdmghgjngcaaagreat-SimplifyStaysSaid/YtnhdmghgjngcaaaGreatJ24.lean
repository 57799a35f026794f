import Derived.Test.YtnhdmghgjngcaaaGreatJ14
set_option linter.unusedSimpArgs false
set_option linter.unusedVariables false
namespace Go.Proofs.YtnhdmghgjngcaaaGreat
open Go.RowKit

set_option maxRecDepth 100000 in
set_option maxHeartbeats 8000000 in
theorem Cycles_spec (v:Value) (p:Pl) (w:World) (h:PlV w v p) (hv:Valid p) :
  Calls Tryz.prog 40 #[v] w (RetCys w (cyclesD p) 0):=by
 have hck:checkS p=0:=(check_zero p).2 hv
 have HCk:=Lib.hid (fun W (hW:Below w.heap.size w W)=>Check_spec v p W (h.mono hW))
 rw [hck] at HCk
 have HAr:=Lib.hid (fun n W (hW:Below w.heap.size w W)=>Around_spec v p n W (h.mono hW) hv)
 obtain ⟨_,_,_,al,rfl,hpa,⟨An,cn,rfl,hn1,hn2,hR⟩,⟨⟨Aa,ca,rfl,-⟩,-⟩,⟨Af,cf,rfl,-⟩⟩:=h
 unfold maxLen at hn2
 have HR:=Lib.hid hR;have HV:=Lib.hid hv
 have hnl:=hv.nodes_len
 generalize al.length=na at *
 generalize p.faces.length=nf at *
 obtain ⟨nn,hnn⟩:∃ nn,p.nodes.length=nn:=⟨_,rfl⟩
 rw [hnn] at hn1 hnl HCk HAr ⊢
 have HNN:=Lib.hid hnn
 obtain ⟨q,hq⟩:∃ q,cyclesD p=q:=⟨_,rfl⟩
 rw [hq]
 have HQ0:=Lib.hid hq
 clear hpa hR hv hck hnn hq
 go_enter Tryz.func40,Tryz.ntmps40
 go_wp2_with fail
 refine (HCk.out _ (bA (bR w) _)).mono ?_
 rintro e w1 ⟨rfl,hb1⟩
 have X1:Blk w1 w.heap.size 26 #[.slice An nn cn,.slice Aa na ca,.slice Af nf cf]:=(Blk.made rfl _ _).keep hb1
 have B1:=Lib.hid (bT (bA (bR w) _) hb1)
 clear hb1 HCk
 have hmm:=@run_makeMap Tryz.prog
 go_upto_region 6 with fail
 obtain ⟨gk,hgk⟩:∃ gk,w1.heap.size=gk:=⟨_,rfl⟩
 obtain ⟨W5,hW⟩:∃ W:World,W=(w1.alloc (.map #[] 0)).alloc (.cells #[.map (some w1.heap.size)] 100):=⟨_,rfl⟩
 have hA:Below w1.heap.size w1 W5:=by rw [hW];exact bA (bA (bR w1) _) _
 have HX5:=Lib.hid (show Blk W5 (w1.heap.size+1) 100 #[.map (some w1.heap.size)] by rw [hW];exact Blk.made (by simp) _ _)
 have HM5:=Lib.hid (show MapII W5 w1.heap.size 0 (fun _=>0) by rw [hW];exact (MapII.made w1).keep (bA (bR _) _))
 have HX1:=Lib.hid (X1.keep hA)
 have B5:=Lib.hid (bT B1.out hA)
 have hz1:w.heap.size+1≤w1.heap.size:=X1.lt
 rw [← hW]
 clear hW hA X1 hmm
 rw [hgk] at HX5 HM5 hz1 ⊢
 clear hgk
 have X1:=HX1.out
 obtain ⟨X1l,X1a,X1b,X1c,-,-,-⟩:=X1.facts3
 have HPrec:=Lib.hid (@preceding_spec)
 have hz5:gk+1<W5.heap.size:=HX5.out.lt
 go_upto_block 0 with fail
 go_wp2_with fail
 go_loopw [4,24] (fun s i wr=>∃ (k:Nat) (F:Int→Int) (cnt:Nat),k≤nn∧i=.int .i64 k∧(∃ A c,s=.slice A (aroundL p k).length c)∧Own wr (w.heap.size+1) 3 1 inC s (aroundL p k)∧cnt≤(aroundL p k).length∧MapII wr gk cnt F∧FolOK p F (aroundL p k)∧Blk wr w.heap.size 26 #[.slice An nn cn,.slice Aa na ca,.slice Af nf cf]∧Blk wr (gk+1) 100 #[.map (some gk)]∧Below w.heap.size w wr∧W5.heap.size≤wr.heap.size) (fun _ i _=>nn-(intOf i).toNat)
 case atStart => exact ⟨0,fun _=>0,0,Nat.zero_le _,rfl,⟨none,0,rfl⟩,Own.nil _ _ _ _ _,Nat.zero_le _,HM5.out,(fun e he=>by cases he),X1,HX5.out,B5.out,Nat.le_refl _⟩
 case round =>
  obtain ⟨k,F,cnt,hk,rfl,⟨A,c,rfl⟩,own,hcnt,mp,fol,X1,X5,hb,hsz⟩:=hrel
  obtain ⟨wo,rfl⟩:∃ wo:World,wo=wr:=⟨_,rfl⟩
  have hlk:=aroundL_len HV.out k
  have HO:=Lib.hid own;have HM:=Lib.hid mp;have HFo:=Lib.hid fol;have HX1:=Lib.hid X1;have HX5:=Lib.hid X5;have Hb:=Lib.hid hb
  clear own mp fol hb X1l X1a X1b X1c
  by_cases hlt:k<nn
  ·
   have hkn:k<p.nodes.length:=by have:=HNN.out;omega
   obtain ⟨b,o,rfl,hlb,c0,c1,c2⟩:=(HR.out.mono Hb.out).nd hkn
   have hnm:p.nodes[k]∈p.nodes:=List.getElem_mem hkn
   have hsuc:=aroundL_succ p k hkn
   generalize p.nodes[k]=nd at *
   have HNm:=Lib.hid hnm;have HSuc:=Lib.hid hsuc
   have hql:=HV.out.around_len nd.id
   have HAn:=Lib.hid (HAr.out nd.id)
   have HNx:=Lib.hid (fun d (hd:d∈aroundD p nd.id)=>HV.out.next_around HNm.out hd)
   clear hnm hsuc
   obtain ⟨L,hL⟩:∃ L,aroundL p k=L:=⟨_,rfl⟩
   obtain ⟨Q,hQ⟩:∃ Q,aroundD p nd.id=Q:=⟨_,rfl⟩
   rw [hL] at hlk hcnt HSuc HO HFo ⊢
   rw [hQ] at HSuc hql HAn HNx
   clear hL hQ
   try clear X1l
   try clear X1a
   try clear X1b
   try clear X1c
   obtain ⟨X1l,X1a,X1b,X1c,-,-,-⟩:=X1.facts3
   obtain ⟨X5l,X5a,-⟩:=X5.facts1
   go_wp2_with fail
   refine (HAn.out _ (bA Hb.out _)).mono ?_
   rintro e w2 ⟨Aq,cq,rfl,hb2,hoq⟩
   have HW2:=Lib.hid (show Below wo.heap.size wo w2 from bT (bA (bR wo) _) hb2)
   have HOq:=Lib.hid (Own.mono_base hoq (b':=wo.heap.size) (by simp))
   have hsep0:∀ g,(Value.slice A L.length c).ownBlock=some g→(Value.slice Aq Q.length cq).ownBlock≠some g:=fun g hg e=>by
    have h1:=(HO.out.lt g hg).2
    have h2:=(HOq.out.lt g e).1
    omega
   have HSep0:=Lib.hid hsep0
   have hsz2:=HW2.out.size
   clear hb2 hoq hsep0 c0 c1 c2 hlb X1 X5 X1l X1a X1b X1c X5l X5a HAn
   go_upto_block 2 with fail
   go_wp2_with fail
   go_loopw [4,34] (fun s i wr=>∃ (j:Nat) (G:Int→Int) (cnt2:Nat),j≤Q.length∧i=.int .i64 j∧(∃ A c,s=.slice A (L.length+j) c)∧Own wr (w.heap.size+1) 3 1 inC s (L++Q.take j)∧cnt2≤L.length+j∧MapII wr gk cnt2 G∧FolOK p G (L++Q.take j)∧Own wr wo.heap.size 3 1 inC (.slice Aq Q.length cq) Q∧(∀ g,s.ownBlock=some g→(Value.slice Aq Q.length cq).ownBlock≠some g)∧Blk wr w.heap.size 26 #[.slice (some ⟨b,o,none⟩) nn cn,.slice Aa na ca,.slice Af nf cf]∧Blk wr (gk+1) 100 #[.map (some gk)]∧Below w.heap.size w wr∧wo.heap.size≤wr.heap.size) (fun _ i _=>Q.length-(intOf i).toNat)
   case atStart => exact ⟨0,F,cnt,Nat.zero_le _,rfl,⟨A,c,rfl⟩,by rw [List.take_zero,List.append_nil];exact HO.out.keep HW2.out,by omega,HM.out.keep HW2.out,by rw [List.take_zero,List.append_nil];exact HFo.out,HOq.out,HSep0.out,HX1.out.keep HW2.out,HX5.out.keep HW2.out,bT Hb.out HW2.out,hsz2⟩
   case round =>
    obtain ⟨j,G,cnt2,hj,rfl,⟨A3,c3,rfl⟩,own3,hcnt3,mp3,fol3,oq3,sep3,X1,X5,hb3,hsz3⟩:=hrel
    have HO3:=Lib.hid own3;have HM3:=Lib.hid mp3;have HF3:=Lib.hid fol3;have HQ3:=Lib.hid oq3;have HS3:=Lib.hid sep3;have HX13:=Lib.hid X1;have HX53:=Lib.hid X5;have HB3:=Lib.hid hb3
    clear own3 mp3 fol3 oq3 sep3 hb3
    by_cases hlj:j<Q.length
    ·
     obtain ⟨bq,oq',rfl,hlbq,e0⟩:=(HQ3.out.row_in).int hlj
     have hnx:=HNx.out Q[j] (List.getElem_mem hlj)
     have hbd:=HV.out.dart_bd hnx.2
     have htk:Q.take (j+1)=Q.take j++[Q[j]]:=List.take_succ_eq_append_getElem hlj
     generalize Q[j]=d at *
     have k1:IntKind.i64.wrap (-d)=-d:=IntWalk.i64_in _ (by omega)
     have HTk:=Lib.hid htk;have HNd:=Lib.hid hnx.1;have HWd:=Lib.hid (show wfI (-d) from wfI_of (by omega) (by omega))
     have HLn:=Lib.hid (show (L++Q.take (j+1)).length=L.length+(j+1) by rw [List.length_append,List.length_take];omega)
     have n1:=Own.ne_blk HO3.out X1 (by decide)
     have n5:=Own.ne_blk HO3.out X5 (by decide)
     have nm:=mapII_own HM3.out HO3.out
     clear htk hnx
     go_upto_region 13 with fail
     clear e0 hlbq
     go_upto_region 14 with
      (at_builtin
       refine wpList_appl _ rfl (.tmp 38) (.tmp 40) _ rfl (base:=w.heap.size+1) elem_in inC_len inC_one rfl (Own.alloc HO3.out _) rfl (l2:=[d]) (Sl.lit (n:=1) (Blk.made rfl _ _) rfl (le_maxLen (by omega))) (by simp only [List.length_append,List.length_take,List.length_cons,List.length_nil];omega) (by simp only [List.length_append,List.length_take,List.length_cons,List.length_nil];omega) (by simp;omega) ?_
       intro v1 w1 ho1 hg1 hat1
       rw [List.append_assoc,← HTk.out] at ho1
       obtain ⟨A1,c1,hv1,-⟩:=Own.shape_ ho1
       rw [HLn.out] at hv1
       subst hv1
       have HO1:=Lib.hid ho1
       replace X1:=Blk.grown (X1.alloc _) hg1 (fun e=>n1 e.symm)
       replace X5:=Blk.grown (X5.alloc _) hg1 (fun e=>n5 e.symm)
       have HM1:=Lib.hid ((HM3.out.keep (bA (bR wr) _)).kept hg1 (fun e=>nm e.symm))
       have HQ1:=Lib.hid (Own.grown (HQ3.out.alloc _) hg1 (fun g hg e=>HS3.out g e.symm hg))
       have HS1:=Lib.hid (show ∀ g,(Value.slice A1 (L.length+(j+1)) c1).ownBlock=some g→(Value.slice (some ⟨bq,oq',none⟩) Q.length cq).ownBlock≠some g from fun g hg e=>by
        rcases hat1 with h | h
        · exact HS3.out g (h.symm.trans hg) e
        ·
         have h1:=(HQ3.out.lt g e).2
         rw [hg] at h
         have:=Option.some.inj h
         simp at this
         omega)
       have HB1:=Lib.hid (bG (bA HB3.out _) hg1 (fun g hg=>by have:=(HO3.out.lt g hg).1;omega))
       have hsz1:wr.heap.size≤w1.heap.size:=by have:=hg1.size;simp at this;omega
       clear ho1 hg1 hat1
       )
     have HX1a:=Lib.hid X1;have HX5a:=Lib.hid X5
     have m1:=mapII_ne HM1.out X1
     have m5:=mapII_ne HM1.out X5
     try clear X5l
     try clear X5a
     obtain ⟨X5l,X5a,-⟩:=X5.facts1
     refine rg_start (SinceX w1 (some gk)) (.run 5 0 0 (.call 5 63 (.call 6 127 (.done)))) (by kernel_rfl) (gD (gR _ _)) (by kernel_rfl) (by kernel_rfl) (Nat.le_of_ble_eq_true (by kernel_rfl)) ?_
     intro opsR QR Hops HQrg hS
     iterate 5
      apply rg_pX;exact Hops;exact rfl;exact hS;exact rfl
      · intro _ hqc;go_simp;try rfl
      try simp only [pu]
     refine rg_call (i:=5) (get_of Hops rfl) (fun K hK=>?_)
     have HSrg:=Lib.hid hS;clear hS
     refine rg_run (wanted_plain rfl) ?_
     go_simp
     refine (HPrec.out _ Q d _ ((HQ1.out.keep (bD (bR w1))).sl) (by omega)).mono ?_
     rintro e wr1 ⟨rfl,hbr1⟩
     have hS:SinceX w1 (some gk) wr1:=gB (w0:=w1) HSrg.out hbr1
     clear HSrg
     refine hK.out _ _ hS (fun _=>?_)
     clear hK K
     try simp only [pu]
     refine rg_call (i:=6) (get_of Hops rfl) (fun K hK=>?_)
     have HSrg:=Lib.hid hS;clear hS
     refine rg_run (wanted_plain rfl) ?_
     obtain ⟨w6,hr6,hm6,hg6⟩:=(HM1.out.keep (bT (bD (bR w1)) hbr1)).upd (by omega) (-d) HWd.out (precD Q d)
     go_simp
     have hS:SinceX w1 (some gk) w6:=gT HSrg.out hg6
     have HM6:=Lib.hid hm6
     clear hm6 hg6 hr6
     clear HSrg
     refine hK.out _ _ hS (fun _=>?_)
     clear hK K
     try simp only [pu]
     refine rg_done ?_
     refine HQrg.down _ _ ?_
     have hB:w1.grownBy _ (some gk):=hS
     clear hS HQrg Hops
     go_wp2_with fail
     go_roundw
     case rel => exact ⟨j+1,_,cnt2+1,by omega,by go_num,⟨A1,c1,rfl⟩,Own.grown HO1.out hB (fun g hg e=>mapII_own HM1.out HO1.out (by rw [hg];exact e)),by omega,HM6.out,by rw [HTk.out,← List.append_assoc];exact HF3.out.snoc HNd.out,Own.grown HQ1.out hB (fun g hg e=>mapII_own HM1.out HQ1.out (by rw [hg];exact e)),HS1.out,Blk.grow HX1a.out hB (fun e=>m1 (Option.some.inj e)),Blk.grow HX5a.out hB (fun e=>m5 (Option.some.inj e)),bG HB1.out hB (fun g hg=>by have:=Option.some.inj hg;omega),Nat.le_trans (by omega) hB.size⟩
     case measure => simp [intOf];omega
    ·
     have hjj:j=Q.length:=by omega
     subst hjj
     have ho:=HO3.out
     have hf:=HF3.out
     rw [List.take_length] at ho hf
     have HLs:=Lib.hid (show aroundL p (k+1)=L++Q from HSuc.out)
     have HLn:=Lib.hid (show (aroundL p (k+1)).length=L.length+Q.length by rw [HLs.out,List.length_append])
     have HO4:=Lib.hid ho;have HF4:=Lib.hid hf
     clear ho hf
     go_wp2_with fail
     go_roundw
     case rel => exact ⟨k+1,G,cnt2,by omega,by go_num,⟨A3,c3,by rw [HLn.out]⟩,by rw [HLs.out];exact HO4.out,by rw [HLn.out];omega,HM3.out,by rw [HLs.out];exact HF4.out,HX13.out,HX53.out,HB3.out,by omega⟩
     case measure => simp [intOf];omega
  ·
   have hkk:k=nn:=by omega
   subst hkk
   have hNN:=HNN.out
   subst hNN
   have hperm:(aroundL p p.nodes.length).Perm (dartsD p):=by rw [aroundL_all];exact HV.out.all_around
   have hDl:=HV.out.darts_len
   have hLD:=hperm.length_eq
   have hasc:=HV.out.asc_all
   have HFa:=Lib.hid (fun d (hd:d∈dartsD p)=>HV.out.fol_all HFo.out hd)
   have HDm:=Lib.hid (fun x (hx:x∈dartsD p)=>(HV.out.next_mem hx).1)
   have HDi:=Lib.hid (fun x (hx:x∈dartsD p) y (hy:y∈dartsD p)=>HV.out.next_inj (d:=x) (e:=y) hx hy)
   have HDw:=Lib.hid (fun x (hx:x∈dartsD p)=>show wfI x from wfI_of (by have:=HV.out.dart_bd hx;omega) (by have:=HV.out.dart_bd hx;omega))
   have HCk:=Lib.hid (fun k=>HV.out.cyc_k k)
   have HS:=Lib.hid (SortN_spec (w.heap.size+1) _ (aroundL p p.nodes.length) _ HO.out (by omega))
   have no5:=Own.ne_blk HO.out HX5.out (by decide)
   have nom:=mapII_own HM.out HO.out
   have hlo:=HO.out.lt
   rw [hasc] at HS
   rw [hLD] at HS hcnt nom no5 hlo ⊢
   have HNm:=Lib.hid nom;have HN5:=Lib.hid no5;have HLo:=Lib.hid hlo
   have hq:=HQ0.out
   unfold cyclesD cycL at hq
   have Hq:=Lib.hid hq
   clear HQ0 hperm hLD hasc hlk hq HO HFo HAr HPrec HV nom no5 hlo X1 X5
   generalize dartsD p=D at *
   generalize nextD p=f at *
   go_wp2_with fail
   refine HS.out.mono ?_
   rintro e ws ⟨rfl,hos,hgs⟩
   have HBs:=Lib.hid (bG Hb.out hgs (fun g hg=>by have:=(HLo.out g hg).1;omega))
   have HX5s:=Lib.hid (Blk.grown HX5.out hgs (fun e=>HN5.out e.symm))
   have HMs:=Lib.hid (HM.out.kept hgs (fun e=>HNm.out e.symm))
   have HOs:=Lib.hid hos
   clear hos hgs HS
   have hmm:=@run_makeMap Tryz.prog
   go_upto_region 19 with fail
   obtain ⟨gm,hgm⟩:∃ gm,ws.heap.size=gm:=⟨_,rfl⟩
   obtain ⟨W6,hW⟩:∃ W:World,W=(ws.alloc (.map #[] 0)).alloc (.cells #[.map (some ws.heap.size)] 63):=⟨_,rfl⟩
   have hA:Below ws.heap.size ws W6:=by rw [hW];exact bA (bA (bR ws) _) _
   have HXs:=Lib.hid (show Blk W6 (ws.heap.size+1) 63 #[.map (some ws.heap.size)] by rw [hW];exact Blk.made (by simp) _ _)
   have HI6:=Lib.hid (show MapIB W6 ws.heap.size 0 (fun _=>false) by rw [hW];exact (MapIB.made ws).keep (bA (bR _) _))
   have HX56:=Lib.hid (HX5s.out.keep hA)
   have HM6:=Lib.hid (HMs.out.keep hA)
   have HO6:=Lib.hid (HOs.out.keep hA)
   have HB6:=Lib.hid (bT HBs.out hA)
   have hgl:=HMs.out.lt
   rw [← hW]
   clear hW hA hmm
   rw [hgm] at HXs HI6 hgl ⊢
   have hws:w.heap.size≤gm:=by rw [← hgm];exact HBs.out.size
   clear hgm
   have HFol:=Lib.hid (@follow_spec f D HDm.out HDi.out F HFa.out HDw.out (by omega))
   have hz6:gm+1<W6.heap.size:=HXs.out.lt
   go_upto_block 4 with fail
   go_wp2_with fail
   go_loopw [2,56] (fun s i wr=>∃ (k:Nat) (acc:List (List Int×SV)) (S:Int→Bool),k≤D.length∧i=.int .i64 k∧acc.length≤k∧(∃ A c,s=.slice A acc.length c)∧CysO wr w.heap.size s acc∧acc.map (·.1)=(D.take k).foldl (cycStep f D) []∧MapIB wr gm (acc.map (·.1)).flatten.length S∧(∀ x,S x=decide (x∈(acc.map (·.1)).flatten))∧Own wr (w.heap.size+1) 3 1 inC (.slice A D.length c) D∧Blk wr (gm+1) 63 #[.map (some gm)]∧Blk wr (gk+1) 100 #[.map (some gk)]∧MapII wr gk cnt F∧Below w.heap.size w wr∧gm+1<wr.heap.size) (fun _ i _=>D.length-(intOf i).toNat)
   case atStart => exact ⟨0,[],fun _=>false,Nat.zero_le _,rfl,Nat.zero_le _,⟨none,0,rfl⟩,⟨Own.nil _ _ _ _ _,fun x hx=>by cases hx⟩,rfl,HI6.out,fun x=>by simp,HO6.out,HXs.out,HX56.out,HM6.out,HB6.out,hz6⟩
   case round =>
    obtain ⟨k,acc,S,hk,rfl,hak,⟨A2,c2,rfl⟩,cys,hacc,mi,hS,od,xs,x5,mk,hb,hsz⟩:=hrel
    have HCy:=Lib.hid cys;have HAc:=Lib.hid hacc;have HMi:=Lib.hid mi;have HSx:=Lib.hid hS;have HOd:=Lib.hid od;have HX:=Lib.hid xs;have HX5:=Lib.hid x5;have HMk:=Lib.hid mk;have HB:=Lib.hid hb
    have X11:=xs
    clear cys hacc mi hS od xs x5 mk hb
    by_cases hlt:k<D.length
    ·
     obtain ⟨bq,oq',hA,hlbq,e0⟩:=(HOd.out.row_in).int hlt
     subst hA
     have hx:D[k]∈D:=List.getElem_mem hlt
     have hsucc:=cyc_succ f D k hlt
     rw [← HAc.out] at hsucc
     have hcyc:=HCk.out k
     rw [← HAc.out] at hcyc
     generalize D[k]=x at *
     have hlk:=HMi.out.look x (HDw.out x hx)
     rw [HSx.out x] at hlk
     have HSu:=Lib.hid hsucc;have HCyc:=Lib.hid hcyc;have HXm:=Lib.hid hx
     clear hsucc hcyc hx
     obtain ⟨X11l,X11a,-⟩:=X11.facts1
     by_cases hm:x∈(acc.map (·.1)).flatten
     ·
      rw [decide_eq_true hm] at hlk
      have hst:=Lib.hid (show cycStep f D (acc.map (·.1)) x=acc.map (·.1) by unfold cycStep;rw [if_pos hm])
      clear hm
      go_wp2_with fail
      go_roundw
      case rel => exact ⟨k+1,acc,S,by omega,by go_num,by omega,⟨A2,c2,rfl⟩,HCy.out,by rw [HSu.out,hst.out],HMi.out,HSx.out,HOd.out,HX.out,HX5.out,HMk.out,HB.out,hsz⟩
      case measure => simp [intOf];omega
     ·
      rw [decide_eq_false hm] at hlk
      have hst:=Lib.hid (show cycStep f D (acc.map (·.1)) x=acc.map (·.1)++[orb f D x] by unfold cycStep;rw [if_neg hm])
      have hfn:(acc.map (·.1)).flatten.length≤D.length:=nodup_le HCyc.out.nodup (fun y hy=>by
       obtain ⟨l,hl,hy⟩:=List.mem_flatten.1 hy
       obtain ⟨d,h1,h2,-⟩:=HCyc.out.orbs l hl
       subst h2
       exact orb_mem HDm.out (List.mem_of_mem_take h1) hy)
      have HF2:=Lib.hid (HFol.out S x HXm.out (fun y hy=>by rw [HSx.out y];exact decide_eq_false (HCyc.out.apart HDm.out HXm.out hm hy)) (gm+1) (gk+1) gm gk (acc.map (·.1)).flatten.length cnt wr (by omega) HX.out HX5.out HMi.out HMk.out (by omega))
      have hol:(orb f D x).length≤D.length+1:=by
       have h:=orb_facts HDm.out HDi.out HXm.out
       rw [h.2.2.2.2.2];exact h.2.1
      clear hm
      generalize orb f D x=o at *
      go_wp2_with fail
      refine HF2.out.mono ?_
      rintro e w4 ⟨A4,c4,rfl,ho4,hm4,hg4⟩
      have hrs:=hg4.size
      have ncy:=mapIB_own HMi.out HCy.out.1
      have HCo:=Lib.hid (Own.grown HCy.out.1 hg4 (fun g hg e=>ncy (hg.trans e)))
      have HCe:=Lib.hid (show ∀ y∈acc,Own w4 w.heap.size 3 1 inC (.slice y.2.a y.2.n y.2.c) y.1 from fun y hy=>Own.grown (HCy.out.2 y hy) hg4 (fun g hg e=>mapIB_own HMi.out (HCy.out.2 y hy) (hg.trans e)))
      have HO4:=Lib.hid (Own.mono_base ho4 (b':=w.heap.size) (HB.out.size))
      have HM4:=Lib.hid hm4
      have HD4:=Lib.hid (Own.grown HOd.out hg4 (fun g hg e=>mapIB_own HMi.out HOd.out (hg.trans e)))
      have HX4:=Lib.hid (Blk.grow HX.out hg4 (fun e=>mapIB_ne HMi.out HX.out (Option.some.inj e)))
      have HX54:=Lib.hid (Blk.grow HX5.out hg4 (fun e=>mapIB_ne HMi.out HX5.out (Option.some.inj e)))
      have HK4:=Lib.hid (HMk.out.kept hg4 (fun e=>by have:=Option.some.inj e;omega))
      have HB4:=Lib.hid (bG HB.out hg4 (fun g hg=>by have:=Option.some.inj hg;omega))
      clear ho4 hm4 hg4 ncy HF2 X11 X11l X11a e0 hlbq
      go_upto_region 25 with
       (at_builtin
        refine wpList_appl _ rfl (.tmp 64) (.tmp 68) _ rfl (base:=w.heap.size) elem_cy cyC_len cyC_one rfl (Own.alloc HCo.out _) rfl (l2:=[((o,⟨A4,o.length,c4⟩):List Int×SV)]) (Sl.lit (n:=1) (Blk.made rfl _ _) rfl (le_maxLen (by omega))) (by simp only [List.length_cons,List.length_nil];omega) (by simp only [List.length_cons,List.length_nil];omega) (by have:=HB4.out.size;simp;omega) ?_
        intro v5 w5 ho5 hg5 hat5
        obtain ⟨A5,c5,hv5,-⟩:=Own.shape_ ho5
        rw [show (acc++[((o,⟨A4,o.length,c4⟩):List Int×SV)]).length=acc.length+1 by simp] at hv5
        subst hv5
        have ne5:∀ {l:List Int} {A':Option Addr} {n' c':Nat} {b':Nat},Own w4 b' 3 1 inC (.slice A' n' c') l→∀ g,(Value.slice A' n' c').ownBlock=some g→some g≠(Value.slice A2 acc.length c2).ownBlock:=fun h g hg=>Own.apart h HCo.out (by decide) g hg
        have HCy5:=Lib.hid (show CysO w5 w.heap.size (.slice A5 (acc.length+1) c5) (acc++[((o,⟨A4,o.length,c4⟩):List Int×SV)]) from ⟨ho5,fun y hy=>by
         rcases List.mem_append.1 hy with hy | hy
         · exact Own.grown (Own.alloc (HCe.out y hy) _) hg5 (ne5 (HCe.out y hy))
         ·
          rw [List.mem_singleton] at hy
          subst hy
          exact Own.grown (Own.alloc HO4.out _) hg5 (ne5 HO4.out)⟩)
        have HD5:=Lib.hid (Own.grown (Own.alloc HD4.out _) hg5 (ne5 HD4.out))
        have HX15:=Lib.hid (Blk.grown (HX4.out.alloc _) hg5 (fun e=>Own.ne_blk HCo.out HX4.out (by decide) e.symm))
        have HX55:=Lib.hid (Blk.grown (HX54.out.alloc _) hg5 (fun e=>Own.ne_blk HCo.out HX54.out (by decide) e.symm))
        have HK5:=Lib.hid ((HK4.out.keep (bA (bR w4) _)).kept hg5 (fun e=>mapII_own HK4.out HCo.out e.symm))
        have HM5':=Lib.hid ((HM4.out.keep (bA (bR w4) _)).kept hg5 (fun e=>mapIB_own HM4.out HCo.out e.symm))
        have HB5:=Lib.hid (bG (bA HB4.out _) hg5 (fun g hg=>(HCo.out.lt g hg).1))
        have hs5:=hg5.size
        simp only [World.size_alloc] at hs5
        clear ho5 hg5 hat5 ne5
        )
      go_wp2_with fail
      go_roundw
      case rel => exact ⟨k+1,acc++[((o,⟨A4,o.length,c4⟩):List Int×SV)],seenL S o,by omega,by go_num,by rw [List.length_append,List.length_singleton];omega,⟨A5,c5,by rw [List.length_append,List.length_singleton]⟩,HCy5.out,by rw [HSu.out,hst.out,List.map_append];rfl,by rw [List.map_append,List.flatten_append,List.length_append];have h:=HM5'.out;simpa using h,(fun y=>by unfold seenL;rw [HSx.out y,List.map_append,List.flatten_append,Bool.eq_iff_iff];simp),HD5.out,HX15.out,HX55.out,HK5.out,HB5.out,by omega⟩
      case measure => simp [intOf];omega
    ·
     have hkk:k=D.length:=by omega
     subst hkk
     have hfin:=HAc.out
     rw [List.take_length,Hq.out] at hfin
     have hfl:acc.length=q.length:=by rw [← hfin,List.length_map]
     have Hfin:=Lib.hid hfin
     have hc:=HCy.out
     rw [hfl] at hc ⊢
     have HC:=Lib.hid hc
     clear hfin hc hfl
     go_wp2_with fail
     go_ret2
     exact ⟨A2,c2,acc,rfl,HB.out,Hfin.out,HC.out⟩
end Go.Proofs.YtnhdmghgjngcaaaGreat
