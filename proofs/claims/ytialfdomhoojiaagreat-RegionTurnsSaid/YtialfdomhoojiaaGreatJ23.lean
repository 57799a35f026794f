import Derived.Test.YtialfdomhoojiaaGreatJ21
set_option linter.unusedSimpArgs false
set_option linter.unusedVariables false
namespace Go.Proofs.YtialfdomhoojiaaGreat
open Go.RowKit
def ap3 (w:World) (p:Pl) (e:Ending) (w':World):Prop :=
 ∃ A c L,e=.returned (.slice A L.length c)/\Below w.heap.size w w'/\kD 82 w w' w.heap.size (.slice A L.length c) L/\jE p L (aI p) (iM p) p.nodes/\vK p L
def ad0:AD:=⟨0,[],sv0,[],sv0,[],sv0⟩
def Nk (p:Pl) (k:Nat):List (List Int):=((bF p).take k).filter (fun X=>decide (0<dV p X))
def Nl (p:Pl) (k:Nat):List (List Int):=((bF p).take k).filter (fun X=>!decide (0<dV p X))
theorem ap4 {p:Pl} {k:Nat} (hk:k<(bF p).length):Nk p (k+1)=Nk p k++(if 0<dV p (bF p)[k] then [(bF p)[k]] else []):=by
 unfold Nk;rw [List.take_succ_eq_append_getElem hk,List.filter_append,List.filter_cons];simp only [decide_eq_true_eq,List.filter_nil]
theorem ap5 {p:Pl} {k:Nat} (hk:k<(bF p).length):Nl p (k+1)=Nl p k++(if 0<dV p (bF p)[k] then [] else [(bF p)[k]]):=by
 unfold Nl;rw [List.take_succ_eq_append_getElem hk,List.filter_append,List.filter_cons];by_cases h:0<dV p (bF p)[k]<;>simp [h]
theorem ap6 (p:Pl):Nk p (bF p).length=aI p:=by unfold Nk aI;rw [List.take_length]
theorem ap7 (p:Pl):Nl p (bF p).length=iM p:=by unfold Nl iM;rw [List.take_length]
theorem ag6 {CL:List (List Int×SV)} {C:List (List Int)} (h:CL.map (·.1)=C) {k:Nat} (hk:k<CL.length) (hk2:k<C.length):C[k]=CL[k].1:=by
 subst h;rw [List.getElem_map]
theorem ap8 {CL:List (List Int×SV)} {C:List (List Int)} (h:CL.map (·.1)=C) {k:Nat} (hk:k<CL.length):C.take (k+1)=C.take k++[CL[k].1]:=by
 subst h;rw [List.take_succ_eq_append_getElem (by simpa using hk),List.getElem_map]
set_option maxRecDepth 100000 in
set_option maxHeartbeats 8000000 in
theorem ag7 (v vc:Value) (p:Pl) (CL:List (List Int×SV)) (gm:Nat) (f:Int->SV) (w:World) (h:dS w v p) (hv:Valid p) (hc:QN w vc CL) (hcl:CL.map (·.1)=bF p) (hpm:rO w gm p f) :
  Calls Tryz.prog 58 #[v,vc,.map (some gm)] w (ap3 w p):=by
 have BF:=Lib.hid (fun u l (hl:l∈bF p) W (hu:Ints W u l) (hW:Below w.heap.size w W)=>show Calls Tryz.prog 120 #[v,u] W fun e w'=>e=.returned (.int .i64 (dV p l))/\Below W.heap.size W w' from by
  have t:=amD v u p l W (h.mono hW) hu hv (fun d hd=>by have:=hv.GR ((hv.iE hl).2 d hd);exact oV (by omega) (by omega));rw [hv.ao3 hl] at t;exact t)
 have Ld:=Lib.hid (fun id W (hW:Below w.heap.size w W)=>akf v p id W (h.mono hW) (by have:=hv.lim;unfold lY at this;simp only [Bool.or_eq_false_iff,decide_eq_false_iff_not] at this;omega));have abb:=fun W (hW:Below w.heap.size w W)=>agt W gm p f (hpm.keep hW) hv;unfold bg at abb;have G6:=Lib.hid abb;clear abb;have ng:=Lib.hid hpm;have HV:=Lib.hid hv;have hnl:=hv.Qk;have hcn:=hv.GU;have hll:CL.length=(bF p).length:=by rw [<- hcl,List.length_map]
 have DC:=Lib.hid hcl;have EL:=Lib.hid hll;have nZ:=Lib.hid hv.U4;obtain ⟨⟨Ac,cc,rfl,hc1,hc2,qg⟩,hI⟩:=hc;obtain ⟨_,_,_,al,rfl,hpa,⟨An,cn,rfl,hn1,hn2,hR⟩,⟨⟨Aa,ca,rfl,-⟩,-⟩,⟨Af,cf,rfl,-⟩⟩:=h;unfold maxLen at hc2 hn2;have Dn:=Lib.hid qg;have HI:=Lib.hid hI;have HRn:=Lib.hid hR;have au9:CL.length<=512:=by omega
 generalize p.faces.length=nf at *;generalize al.length=na at *;clear hpa qg hI hR hv hpm hcl hll hcn;go_enter Tryz.func58,Tryz.ntmps58;go_upto_region 2 with fail;obtain ⟨W1,hW⟩:∃ W:World,W=(w.alloc (.cells #[.slice An p.nodes.length cn,.slice Aa na ca,.slice Af nf cf] 26)).alloc (.cells #[.int .i64 0,.slice none 0 0,.slice none 0 0,.slice none 0 0] 82):=⟨_,rfl⟩;have X1:aj W1 w.heap.size 26 #[.slice An p.nodes.length cn,.slice Aa na ca,.slice Af nf cf]:=by rw [hW];exact (aj.made rfl _ _).alloc _
 have rD:=Lib.hid (show Own W1 w.heap.size 82 4 dP (.slice (some ⟨w.heap.size+1,0,none⟩) 1 1) [ad0] by rw [hW];exact Own.lit _ _ _ _ _ _ _ _ _ (by simp) rfl (by simp) (fQ (by omega)) rfl rfl);have HB1:=Lib.hid (show Below w.heap.size w W1 by rw [hW];exact bA (bA (bR w) _) _);rw [<- hW];clear hW;have HA1:=Lib.hid (show kD 82 w W1 w.heap.size (.slice (some ⟨w.heap.size+1,0,none⟩) 1 1) [ad0] from ⟨rD.out,(fun x hx=>by rw [List.mem_singleton] at hx;subst hx;exact Sl.nil w),(fun x hx=>by rw [List.mem_singleton] at hx;subst hx;exact Own.nil _ _ _ _ _),(fun x hx=>by rw [List.mem_singleton] at hx;subst hx;intro c hc;cases hc),(fun x hx=>by rw [List.mem_singleton] at hx;subst hx;exact Own.nil _ _ _ _ _),List.pairwise_singleton _ _,List.pairwise_singleton _ _⟩);have fK:=Lib.hid X1;clear X1 rD;go_upto_block 0 with fail;go_wp2_with fail;go_loopw [7,8,23] (fun s r i wr=>∃ (k:Nat) (L:List AD) (R:List (List Int×SV)),k<=CL.length/\i=.int .i64 k/\(∃ A c,s=.slice A L.length c)/\(∃ A c,r=.slice A R.length c)/\kD 82 w wr w.heap.size s L/\Own wr w.heap.size 24 1 nD r R/\jE p L (Nk p k) [] []/\vK p L/\R.map (·.1)=Nl p k/\(∀ x∈R,Ints w (aJ x.2) x.1)/\(∀ x∈L,x.iv=sv0)/\L.length<=k+1/\R.length<=k/\aj wr w.heap.size 26 #[.slice An p.nodes.length cn,.slice Aa na ca,.slice Af nf cf]/\Below w.heap.size w wr) (fun _ _ i _=>CL.length-(intOf i).toNat)
 case atStart => exact ⟨0,[ad0],[],Nat.zero_le _,rfl,⟨_,_,rfl⟩,⟨_,_,rfl⟩,HA1.out,Own.nil _ _ _ _ _,jE.start p ad0 rfl rfl rfl,vK.one p ad0,rfl,(fun x hx=>by cases hx),(fun x hx=>by rw [List.mem_singleton] at hx;subst hx;rfl),by simp,by simp,fK.out,HB1.out⟩
 case round =>
  obtain ⟨k,L,R,hk,rfl,⟨A,c,rfl⟩,⟨A',c',rfl⟩,had,hor,hdv,htw,hrm,QS,hiv,hl1,hl2,X1,hb⟩:=hrel;obtain ⟨wo,rfl⟩:∃ wo:World,wo=wr:=⟨_,rfl⟩;have HA:=Lib.hid had;have HO:=Lib.hid hor;have HD:=Lib.hid hdv;have HT:=Lib.hid htw;have Vz:=Lib.hid hrm;have EI:=Lib.hid QS;have QT:=Lib.hid hiv;have HX:=Lib.hid X1;have Hb:=Lib.hid hb;clear had hor hdv htw hrm QS hiv hb fK HA1 HB1;by_cases hlt:k<CL.length
  ·have hlc:k<(bF p).length:=by have:=EL.out;omega
   obtain ⟨b,o,rfl,hlb,c0⟩:=(Dn.out.mono Hb.out).cy hlt;have hin:=HI.out CL[k] (List.getElem_mem hlt);have hmem:(bF p)[k]∈bF p:=List.getElem_mem hlc;have hos:=ap4 hlc;have hrs:=ap5 hlc;rw [ag6 DC.out hlt hlc] at hmem hos hrs;generalize CL[k]=x at *;obtain ⟨l,xs⟩:=x;obtain ⟨xa,xn,xc⟩:=xs;simp only at hin c0 hmem hos hrs;have oN:=Lib.hid hin;have mD:=Lib.hid (fun W (hW:Below w.heap.size w W)=>BF.out _ l hmem W (hin.mono hW) hW);obtain ⟨t,ht⟩:∃ t,dV p l=t:=⟨_,rfl⟩;rw [ht] at mD hos hrs;have HTe:=Lib.hid ht;have MJ:=Lib.hid hos;have HRs:=Lib.hid hrs;clear hin hmem hlc ht hos hrs;obtain ⟨aO,aP,aS,aT,-,-,-⟩:=X1.aY;go_upto_region 7 with fail;go_wp2_with fail;refine (mD.out _ Hb.out).mono ?_;rintro e w2 ⟨rfl,hb2⟩;have HB2:=Lib.hid (bT Hb.out hb2);have HA2:=Lib.hid (HA.out.keep hb2);have iK:=Lib.hid (HO.out.keep hb2);have bU:=Lib.hid (HX.out.keep hb2);have hz2:=HB2.out.size;clear hb2 X1 aO aP aS aT c0 hlb mD HA HO HX Hb;by_cases h0:0<t
   ·have hos:=MJ.out;have hrs:=HRs.out;rw [if_pos h0] at hos hrs;rw [List.append_nil] at hrs;have abd:=Lib.hid hos;have abe:=Lib.hid hrs;clear hos hrs;have n1:=Own.dU HA2.out.own bU.out (by decide);go_upto_region 10 with
     (at_builtin
      refine lq _ rfl (.tmp 32) (.tmp 36) _ rfl (base:=w.heap.size) aoS vJ UZ rfl (Own.alloc HA2.out.own _) rfl (l2:=[(⟨t,l,⟨xa,xn,xc⟩,[],sv0,[],sv0⟩:AD)]) (Sl.lit (n:=1) (aj.made rfl _ _) rfl (fQ (by omega))) (by simp only [List.length_cons,List.length_nil];omega) (by simp only [List.length_cons,List.length_nil];omega) (by simp;omega) ?_;intro v3 w3 ho3 hg3 qj;obtain ⟨A3,c3,hv3,-⟩:=Own.qM ho3;have hsh:(L++[(⟨t,l,⟨xa,xn,xc⟩,[],sv0,[],sv0⟩:AD)]).length=L.length+1:=by simp
      rw [hsh] at hv3;subst hv3;have rQ:=Lib.hid (kD.more (by decide) (HA2.out.keep (bA (bR w2) _)) ho3 hg3 oN.out rfl rfl rfl rfl);have iU:=Lib.hid (Own.grown (Own.alloc iK.out _) hg3 (fun g hg=>Own.apart iK.out HA2.out.own (by decide) g hg));have iR:=Lib.hid (aj.grown (bU.out.alloc _) hg3 (fun e=>n1 e.symm));have HB3:=Lib.hid (bG (bA HB2.out _) hg3 (fun g hg=>(HA2.out.own.lt g hg).1));clear ho3 hg3 qj
      )
    clear n1;go_wp2_with fail;go_roundw
    case rel => exact ⟨k+1,_,R,by omega,by go_num,⟨A3,c3,by rw [hsh]⟩,⟨_,_,rfl⟩,rQ.out,iU.out,by rw [abd.out];exact HD.out.more rfl rfl _ rfl rfl,HT.out.more HTe.out.symm,by rw [abe.out];exact Vz.out,EI.out,(fun x hx=>by
      rcases List.mem_append.1 hx with hx | hx
      · exact QT.out x hx
      · rw [List.mem_singleton] at hx;subst hx;rfl),by rw [hsh];omega,by omega,iR.out,HB3.out⟩
    case measure => simp [intOf];omega
   ·have hos:=MJ.out;have hrs:=HRs.out;rw [if_neg h0] at hos hrs;rw [List.append_nil] at hos;have abd:=Lib.hid hos;have abe:=Lib.hid hrs;clear hos hrs;have n1:=Own.dU iK.out bU.out (by decide);go_upto_region 10 with
     (at_builtin
      refine lq _ rfl (.tmp 38) (.tmp 40) _ rfl (base:=w.heap.size) UY UU UW rfl (Own.alloc iK.out _) rfl (l2:=[((l,⟨xa,xn,xc⟩):List Int×SV)]) (Sl.lit (n:=1) (aj.made rfl _ _) rfl (fQ (by omega))) (by simp only [List.length_cons,List.length_nil];omega) (by simp only [List.length_cons,List.length_nil];omega) (by simp;omega) ?_;intro v3 w3 ho3 hg3 qj;obtain ⟨A3,c3,hv3,-⟩:=Own.qM ho3;have hsh:(R++[((l,⟨xa,xn,xc⟩):List Int×SV)]).length=R.length+1:=by simp
      rw [hsh] at hv3;subst hv3;have iU:=Lib.hid ho3;have rQ:=Lib.hid (kD.ap1 (by decide) (HA2.out.keep (bA (bR w2) _)) hg3 (Own.alloc iK.out _) QT.out);have iR:=Lib.hid (aj.grown (bU.out.alloc _) hg3 (fun e=>n1 e.symm));have HB3:=Lib.hid (bG (bA HB2.out _) hg3 (fun g hg=>(iK.out.lt g hg).1));clear ho3 hg3 qj
      )
    clear n1;go_wp2_with fail;go_roundw
    case rel => exact ⟨k+1,L,_,by omega,by go_num,⟨_,_,rfl⟩,⟨A3,c3,by rw [hsh]⟩,rQ.out,iU.out,by rw [abd.out];exact HD.out,HT.out,by rw [abe.out,List.map_append,Vz.out];rfl,(fun x hx=>by
      rcases List.mem_append.1 hx with hx | hx
      · exact EI.out x hx
      · rw [List.mem_singleton] at hx;subst hx;exact oN.out),QT.out,by omega,by rw [hsh];omega,iR.out,HB3.out⟩
    case measure => simp [intOf];omega
  ·have hkk:k=CL.length:=by omega
   subst hkk;have hd0:=HD.out;have hd:=HD.out;have hrm:=Vz.out;rw [EL.out,ap6] at hd;rw [EL.out,ap7] at hrm;have hsep:∀ x∈L,pJ (aJ x.iv) (.slice A' R.length c'):=fun x hx=>by rw [QT.out x hx];intro g hg;cases hg
   have HD3:=Lib.hid hd;have abf:=Lib.hid hrm;have QU:=Lib.hid hsep;have hl0:0<L.length:=by have:=hd0.len;omega
   clear HD Vz QT hd hd0 hrm hsep X1 DC HI Dn BF;go_upto_block 2 with fail;go_wp2_with fail;go_loopw [45] (fun i wr=>∃ (j:Nat) (L2:List AD),j<=R.length/\i=.int .i64 j/\L2.length=L.length/\kD 82 w wr w.heap.size (.slice A L.length c) L2/\Own wr w.heap.size 24 1 nD (.slice A' R.length c') R/\jE p L2 (aI p) ((iM p).take j) []/\vK p L2/\(∀ x∈L2,pJ (aJ x.iv) (.slice A' R.length c'))/\aj wr w.heap.size 26 #[.slice An p.nodes.length cn,.slice Aa na ca,.slice Af nf cf]/\Below w.heap.size w wr) (fun i _=>R.length-(intOf i).toNat)
   case atStart => exact ⟨0,L,Nat.zero_le _,rfl,rfl,HA.out,HO.out,by rw [List.take_zero];exact HD3.out,HT.out,QU.out,HX.out,Hb.out⟩
   case round =>
    clear HA HO HD3 HT QU HX Hb;obtain ⟨j,L2,hj,rfl,hl3,had,hor,hdv,htw,hsp,X1,hb⟩:=hrel;obtain ⟨wo,rfl⟩:∃ wo:World,wo=wr:=⟨_,rfl⟩;have HA:=Lib.hid had;have HO:=Lib.hid hor;have HD:=Lib.hid hdv;have HT:=Lib.hid htw;have HS:=Lib.hid hsp;have HX:=Lib.hid X1;have Hb:=Lib.hid hb;clear had hor hdv htw hsp hb;by_cases hlj:j<R.length
    ·have hrl:=HO.out.lt;obtain ⟨b,o,hA',hlb,c0⟩:=(HO.out.row_of).cy hlj;subst hA';have htk:=ap8 abf.out hlj;have hmem:R[j].1∈iM p:=by rw [<- abf.out];exact List.mem_map_of_mem (List.getElem_mem hlj)
     have hin:=EI.out R[j] (List.getElem_mem hlj);generalize R[j]=x at *;obtain ⟨l,xa,xn,xc⟩:=x;unfold aJ at hin;simp only at hin c0 htk hmem;have hcm:=(tH.1 hmem).1;have hne:=HV.out.Ql hcm;have hkl:0<l.length:=List.length_pos_iff.2 hne;have hhd:l.headD 0=l[0]:=by
      cases l with
      | nil=>exact absurd rfl hne
      | cons d l'=>rfl
     have hdd:l[0]∈aQ p:=(HV.out.iE hcm).2 _ (List.getElem_mem hkl);obtain ⟨a,ha,ap9,hpt⟩:=HV.out.AY hdd;have hcp:lC p l=(ak p a).getD 0 aB:=by unfold lC;rw [hhd,hpt]
     have hid:=HV.out.jB ha;have hlen:2<=(ak p a).length:=by have:=fM p a;omega
     have uY:=HV.out.y9 ha;have hpl:(ak p a).length<=66:=by have:=fM p a;omega
     have nv:=HV.out.bW ha (k:=0) (by omega);have VA:0<(ak p a).length:=by omega
     have egd:(ak p a).getD 0 aB=(ak p a)[0]:=by simp only [List.getD_eq_getElem?_getD,List.getElem?_eq_getElem VA,Option.getD_some]
     rw [egd] at hcp nv;obtain ⟨n,hmp⟩:=(ng.out.keep Hb.out).mp;have hlk:=(hmp.keep (bD (bR wo))).look a.id (oV (by omega) (by omega));have lT:=ng.out.rd a ha;have k1:IntKind.i64.wrap (-l[0])=-l[0]:=IntWalk.i64_in _ (by omega);have km:max l[0] (-l[0])=a.id:=by omega
     have oN:=Lib.hid hin;obtain ⟨Al,cl,hel,-,-,hRl⟩:=hin.mono Hb.out;injection hel with y1 y2 y3;subst y1 y2 y3;obtain ⟨bl,ol,abg,abh,d0⟩:=(hRl).int hkl;subst abg;simp only [Nat.add_zero] at d0;have kz:(0:Int)<l.length:=by omega
     have kn:¬ l=[]:=hne;generalize f a.id=y at *;obtain ⟨Ap,np,cp⟩:=y;unfold aJ at hlk lT;have Du:=Lib.hid lT;obtain ⟨Jl,cp',he,hp1,hp2,-⟩:=lT;injection he with y1 y2 y3;subst y1 y2 y3;unfold maxLen at hp2;have mD:=Lib.hid htk;have Vp:=Lib.hid hcp;have Np:=Lib.hid nv;have HKn:=Lib.hid hkl;clear hmp hdd htk hmem hpt ap9 ha uY hcm hhd hne hcp nv egd;generalize a.id=ai at *;generalize ak p a=P at *;generalize l[0]=dd at *;clear hid;go_upto_region 14 with fail;refine cZ (Since wo) (.run 9 0 0 (.call 9 1023 (.take 10 2047 (.done)))) (by kernel_rfl) (bD (bR _)) (by kernel_rfl) (by kernel_rfl) (Nat.le_of_ble_eq_true (by kernel_rfl)) ?_;intro dn QR au aC hS
     iterate 9
      apply bn;exact au;exact rfl;exact hS;exact rfl
      · intro _ hqc;go_simp;try rfl
      try simp only [pu]
     refine aW (i:=9) (aH au rfl) (fun K hK=>?_);have aA:=Lib.hid hS;clear hS;refine aN (aV rfl) ?_;go_simp;refine hK.out _ _ aA.out (fun hS=>?_);clear hK K aA
     try simp only [pu]
     apply bn;exact au;exact rfl;exact hS;exact rfl
     · intro _ hqc;go_simp;try rfl
     try simp only [pu]
     refine bQ ?_;refine aC.down _ _ ?_;have hB:Below wo.heap.size wo wo.drew:=hS;clear hS aC au;obtain ⟨W3,hW3⟩:∃ W:World,W=wo.drew:=⟨_,rfl⟩;rw [<- hW3] at hB ⊢;have HB3:=Lib.hid (bT Hb.out hB);have rQ:=Lib.hid (HA.out.keep hB);have iU:=Lib.hid (HO.out.keep hB);have iR:=Lib.hid (HX.out.keep hB);clear hW3 hB HA HO HX Hb c0 d0 hlk k1 km hlb abh X1;obtain ⟨Jl,cp',he,-,-,tK⟩:=Du.out.mono HB3.out;injection he with y1 y2 y3;subst y1 y3;clear y2;obtain ⟨bp,op,lU,hlp,e10,e11⟩:=(tK).pt VA;subst lU;simp only [Nat.zero_mul,Nat.add_zero] at e10 e11;clear tK;have kz2:(0:Int)<P.length:=by omega
     have kn2:¬ P=[]:=fun e=>by rw [e] at VA;simp at VA
     have HF:=Lib.hid (G6.out W3 HB3.out (.slice A L.length c) L2 (rQ.out.read HB3.out) (fun x hx d hd=>by
      rcases HD.out.aaS hx with e | e
      · rw [e] at hd;cases hd
      · exact (HV.out.iE (fF.1 e).1).2 d hd) (by omega) P[0] Np.out)
     go_wp2_with fail;refine HF.out.mono ?_;rintro e w4 ⟨⟨bb,rfl,hbx⟩,hb4⟩;obtain ⟨hbl,hhm⟩:=HD.out.home rfl HT.out hbx;rw [<- Vp.out] at hhm;have QV:=Lib.hid hhm;have HB4:=Lib.hid (bT HB3.out hb4);have lF:=Lib.hid (rQ.out.keep hb4);have uK:=Lib.hid (iU.out.keep hb4);have dI:=Lib.hid (iR.out.keep hb4);have ava:=hb4.size;clear hb4 HF HB3 rQ iU iR e10 e11 kz2 kn2 hbx hhm Du Np Vp hlp kz kn;obtain ⟨g,hA2,hg0,hgl,-,hce⟩:=Own.G5 lF.out.own (by omega);subst hA2;obtain ⟨-,-,e2,-⟩:=hce bb hbl;have xg:=lF.out.inn _ (List.getElem_mem hbl);have hse:=HS.out _ (List.getElem_mem hbl);have hNl:L2[bb].inn.length<=512:=by
      have:=congrArg List.length (HD.out.inn bb hbl)
      rw [List.length_map] at this;rw [this];exact Nat.le_trans (List.length_filter_le _ _) (by rw [List.length_take];omega)
     obtain ⟨iv,hiv⟩:∃ iv,L2[bb].iv=iv:=⟨_,rfl⟩;obtain ⟨N,hN⟩:∃ N,L2[bb].inn=N:=⟨_,rfl⟩;rw [hiv,hN] at xg;rw [hiv] at e2 hse;rw [hN] at hNl;obtain ⟨ia,jM,ic⟩:=iv;unfold aJ at xg e2 hse;have EM:=Lib.hid hiv;have vN:=Lib.hid hN;have HSe:=Lib.hid hse;have nJ:=Lib.hid xg;clear hiv hN hce hse xg;have kb1:(bb:Int)<L.length:=by omega
     have kb2:0<=(bb:Int):=by omega
     have hsh:(N++[((l,⟨some ⟨bl,ol,none⟩,l.length,xc⟩):List Int×SV)]).length=N.length+1:=by simp
     have fD:=Lib.hid hsh;clear hsh;go_upto_region 17 with
      (at_builtin
       refine lq _ rfl (.tmp 71) (.tmp 73) _ rfl (base:=w.heap.size) UY UU UW rfl (Own.alloc nJ.out _) rfl (l2:=[((l,⟨some ⟨bl,ol,none⟩,l.length,xc⟩):List Int×SV)]) (Sl.lit (n:=1) (aj.made rfl _ _) rfl (fQ (by omega))) (by simp only [List.length_cons,List.length_nil];omega) (by simp only [List.length_cons,List.length_nil];omega) (by have:=HB4.out.size;simp;omega) ?_;intro v5 w5 iY hg5 rU;obtain ⟨A5,c5,hv5,-⟩:=Own.qM iY;rw [fD.out] at hv5;subst hv5;have hown5:=Own.grown (Own.alloc lF.out.own _) hg5 (fun g hg=>Own.apart lF.out.own nJ.out (by decide) g hg);obtain ⟨g',hg',-,VB,uN,BI⟩:=Own.G5 hown5 (by omega);injection hg' with hg';injection hg' with hg' _ _;subst hg';obtain ⟨-,-,f2,-⟩:=BI bb hbl;have hf2:=uN (bb*4+2);have zJ:=Lib.hid (kD.ap2 (by decide) (lF.out.keep (bA (bR w4) _)) hbl (zA:=⟨A5,N.length+1,c5⟩) (c:=(l,⟨some ⟨bl,ol,none⟩,l.length,xc⟩)) (by rw [vN.out];exact iY) (by rw [EM.out];exact hg5) (by rw [EM.out];exact rU) oN.out);have uf:=Lib.hid (Own.far (p:=⟨g,bb*4+2,none⟩) (Own.grown (Own.alloc uK.out _) hg5 (fun q hq e=>HSe.out q e.symm hq)) (fun e=>Own.apart uK.out lF.out.own (by decide) g e rfl) (.slice A5 (N.length+1) c5));have bV:=Lib.hid (aj.far (p:=⟨g,bb*4+2,none⟩) (aj.grown (dI.out.alloc _) hg5 (fun e=>Own.dU nJ.out dI.out (by decide) e.symm)) (fun e=>Own.dU lF.out.own dI.out (by decide) (by rw [e];rfl)) (.slice A5 (N.length+1) c5));have dM:=Lib.hid (bS (p:=⟨g,bb*4+2,none⟩) (bG (bA HB4.out _) hg5 (fun g hg=>(nJ.out.lt g hg).1)) hg0 (.slice A5 (N.length+1) c5));have HS5:=Lib.hid (show pJ (.slice A5 (N.length+1) c5) (.slice (some ⟨b,o,none⟩) R.length c') from fun q hq e=>by
        rcases rU with h | h
        · exact HSe.out q (h.symm.trans hq) e
        ·have h1:=(uK.out.lt q e).2;rw [hq] at h;have:=Option.some.inj h
         simp at this;omega)
       clear iY hg5 rU hown5 BI uN e2
       )
     clear f2 hf2 lF uK dI HB4 nJ HSe hgl VB;go_wp2_with fail;go_roundw
     case rel => exact ⟨j+1,_,by omega,by go_num,by rw [List.length_set];exact hl3,zJ.out,uf.out,by rw [mD.out];exact HD.out.inner nZ.out hbl l ⟨some ⟨bl,ol,none⟩,l.length,xc⟩ ⟨A5,N.length+1,c5⟩ QV.out,HT.out.set hbl rfl rfl,(fun x hx=>by
       rcases wZ hx with ⟨rfl,_⟩ | ⟨q,hq,_,rfl⟩
       · exact HS5.out
       · exact HS.out _ (List.getElem_mem hq)),bV.out,dM.out⟩
     case measure => simp [intOf];omega
    ·have hjj:j=R.length:=by omega
     subst hjj;have hrl:R.length=(iM p).length:=by rw [<- abf.out,List.length_map]
     have hd:=HD.out;rw [hrl,List.take_length] at hd;have HD6:=Lib.hid hd;clear HD HS HO hd hrl X1;have X1:=HX.out
     try clear aO
     try clear aP
     try clear aS
     try clear aT
     obtain ⟨aO,aP,aS,aT,-,-,-⟩:=X1.aY;go_upto_block 4 with fail;clear X1 aO aP aS aT;go_wp2_with fail;go_loopw [81] (fun i wr=>∃ (k:Nat) (L3:List AD),k<=p.nodes.length/\i=.int .i64 k/\L3.length=L.length/\kD 82 w wr w.heap.size (.slice A L.length c) L3/\jE p L3 (aI p) (iM p) (p.nodes.take k)/\vK p L3/\aj wr w.heap.size 26 #[.slice An p.nodes.length cn,.slice Aa na ca,.slice Af nf cf]/\Below w.heap.size w wr) (fun i _=>p.nodes.length-(intOf i).toNat)
     case atStart => exact ⟨0,L2,Nat.zero_le _,rfl,hl3,HA.out,by rw [List.take_zero];exact HD6.out,HT.out,HX.out,Hb.out⟩
     case round =>
      clear HA HD6 HT HX Hb;obtain ⟨k,L3,hk,rfl,hl4,had,hdv,htw,X1,hb⟩:=hrel;obtain ⟨wo,rfl⟩:∃ wo:World,wo=wr:=⟨_,rfl⟩;have HA:=Lib.hid had;have HD:=Lib.hid hdv;have HT:=Lib.hid htw;have HX:=Lib.hid X1;have Hb:=Lib.hid hb;clear had hdv htw hb;by_cases hlk:k<p.nodes.length
      ·obtain ⟨b,o,rfl,hlb,c0,c1,c2'⟩:=(HRn.out.mono Hb.out).nd hlk;have htk:p.nodes.take (k+1)=p.nodes.take k++[p.nodes[k]]:=List.take_succ_eq_append_getElem hlk;have nv:=HV.out.TV (List.getElem_mem hlk);generalize p.nodes[k]=nd at *;have mD:=Lib.hid htk;have Np:=Lib.hid nv;have HDk:=Lib.hid (fun W (hW:Below w.heap.size w W)=>Ld.out nd.id W hW);have VD:=Lib.hid (fun h0=>HD.out.pass nd h0);clear htk nv;obtain ⟨dg,hdg⟩:∃ dg,kV p.ah nd.id=dg:=⟨_,rfl⟩;rw [hdg] at HDk VD;have HDe:=Lib.hid hdg;clear hdg;go_upto_region 21 with fail;obtain ⟨W2,hW⟩:∃ W:World,W=wo.alloc (.cells #[.int .i64 nd.id,.int .i64 nd.pt.x,.int .i64 nd.pt.y] 45):=⟨_,rfl⟩;have hA:Below wo.heap.size wo W2:=by rw [hW];exact bA (bR wo) _
       have X5:aj W2 wo.heap.size 45 #[.int .i64 nd.id,.int .i64 nd.pt.x,.int .i64 nd.pt.y]:=by rw [hW];exact aj.made rfl _ _
       replace X1:=X1.keep hA;have HA2:=Lib.hid (HA.out.keep hA);have bU:=Lib.hid X1;have bV:=Lib.hid X5;have HB2:=Lib.hid (bT Hb.out hA);have hz2:=Hb.out.size;rw [<- hW];clear hW hA HA HX Hb c0 c1 c2' hlb;obtain ⟨g5,hg5⟩:∃ g5,wo.heap.size=g5:=⟨_,rfl⟩;rw [hg5] at bV X5 hz2 ⊢;clear hg5
       try clear aO
       try clear aP
       try clear aS
       try clear aT
       obtain ⟨aO,aP,aS,aT,-,-,-⟩:=X1.aY;obtain ⟨dw,dB,dL,jK,-,-,-⟩:=X5.aY;go_wp2_with fail;refine (HDk.out _ HB2.out).mono ?_;rintro e w3 ⟨rfl,hb3⟩;have HB3:=Lib.hid (bT HB2.out hb3);have rQ:=Lib.hid (HA2.out.keep hb3);have iR:=Lib.hid (bU.out.keep hb3);have VE:=bV.out.keep hb3;have EN:=Lib.hid VE;clear hb3 X1 aO aP aS aT X5 dw dB dL jK HDk HA2 bU bV HB2;by_cases h0:dg=0
       ·subst h0;have X5:=VE;clear VE VD
        try clear dw
        try clear dB
        try clear dL
        try clear jK
        obtain ⟨dw,dB,dL,jK,-,-,-⟩:=X5.aY;have HF:=Lib.hid (G6.out w3 HB3.out (.slice A L.length c) L3 (rQ.out.read HB3.out) (fun x hx d hd=>by
         rcases HD.out.aaS hx with e | e
         · rw [e] at hd;cases hd
         · exact (HV.out.iE (fF.1 e).1).2 d hd) (by omega) nd.pt Np.out)
        go_wp2_with fail;refine HF.out.mono ?_;rintro e w4 ⟨⟨bb,rfl,hbx⟩,hb4⟩;obtain ⟨hbl,hhm⟩:=HD.out.home rfl HT.out hbx;have QV:=Lib.hid hhm;have HB4:=Lib.hid (bT HB3.out hb4);have lF:=Lib.hid (rQ.out.keep hb4);have dI:=Lib.hid (iR.out.keep hb4);have BJ:=Lib.hid (EN.out.keep hb4);have hz4:=hb4.size;clear hb4 HF HB3 rQ iR EN X5 dw dB dL jK hbx hhm;obtain ⟨g,hA2,hg0,hgl,-,hce⟩:=Own.G5 lF.out.own (by omega);subst hA2;obtain ⟨-,-,-,e2⟩:=hce bb hbl;have xg:=lF.out.bK _ (List.getElem_mem hbl);have hNl:L3[bb].bK.length<=256:=by
         rw [HD.out.bK bb hbl,List.length_map];exact Nat.le_trans (List.length_filter_le _ _) (by rw [List.length_take];omega)
        obtain ⟨iv,hiv⟩:∃ iv,L3[bb].av=iv:=⟨_,rfl⟩;obtain ⟨N,hN⟩:∃ N,L3[bb].bK=N:=⟨_,rfl⟩;rw [hiv,hN] at xg;rw [hiv] at e2;rw [hN] at hNl;obtain ⟨ia,jM,ic⟩:=iv;unfold aJ at xg e2;have EM:=Lib.hid hiv;have vN:=Lib.hid hN;have nJ:=Lib.hid xg;clear hiv hN hce xg;have kb1:(bb:Int)<L.length:=by omega
        have kb2:0<=(bb:Int):=by omega
        have hsh:(N++[nd.id]).length=N.length+1:=by simp
        have fD:=Lib.hid hsh;clear hsh;have X5:=BJ.out
        try clear dw
        try clear dB
        try clear dL
        try clear jK
        obtain ⟨dw,dB,dL,jK,-,-,-⟩:=X5.aY;have Jj:w.heap.size<=w4.heap.size:=HB4.out.size;go_upto_region 23 with fail;refine cZ (iq (w.heap.size) w4) (.run 6 0 0 (.take 7 191 (.two 6 255 (.call 8 511 (.call 9 1023 (.call 10 2047 (.take 11 4095 (.take 12 8191 (.call 13 16383 (.done))))))) 8 447 (.two 6 511 (.call 9 1023 (.call 10 2047 (.take 11 4095 (.take 12 8191 (.call 13 16383 (.done)))))) 9 959 (.call 6 1023 (.call 10 2047 (.take 11 4095 (.take 12 8191 (.call 13 16383 (.done)))))))))) (by kernel_rfl) (Below.drew (Below.refl _ _)) (by kernel_rfl) (by kernel_rfl) (Nat.le_of_ble_eq_true (by kernel_rfl)) ?_;intro dn QR au aC hS
        iterate 7
         apply jV;exact au;exact rfl;exact hS;exact rfl
         · intro _ hqc;go_simp;try rfl
         try simp only [pu]
        refine xG (i:=6) (j:=8) (aH au rfl) (aH au rfl) (fun K hK=>?_) (fun K hK=>?_)
        ·have aA:=Lib.hid hS;clear hS;refine aN (aV rfl) ?_;go_simp;refine hK.out _ _ aA.out (fun hS=>?_);clear hK K aA
         try simp only [pu]
         refine aW (i:=8) (aH au rfl) (fun K hK=>?_);have aA:=Lib.hid hS;clear hS;refine aN (aV rfl) ?_;go_simp;refine hK.out _ _ aA.out (fun hS=>?_);clear hK K aA
         try simp only [pu]
         refine aW (i:=9) (aH au rfl) (fun K hK=>?_);have aA:=Lib.hid hS;clear hS;refine aN (aV rfl) ?_;go_simp;refine hK.out _ _ (kQ (by omega) aA.out _) (fun hS=>?_);clear hK K aA
         try simp only [pu]
         refine aW (i:=10) (aH au rfl) (fun K hK=>?_);have aA:=Lib.hid hS;clear hS;refine aN (aV rfl) ?_;refine BP (.tmp 101) (.tmp 104) _ rfl (base:=w.heap.size) zQ xC zS rfl ((nJ.out.keep (bD (bR w4))).alloc _) rfl (l2:=[nd.id]) (Sl.lit (n:=1) (aj.made rfl _ _) rfl (fQ (by omega))) (by simp only [List.length_cons,List.length_nil];omega) (by simp only [List.length_cons,List.length_nil];omega) (by simp;omega) ?_;intro v5 w5 iY hg5 rU;obtain ⟨A5,c5,hv5,-⟩:=Own.qM iY;rw [fD.out] at hv5;subst hv5;have hown5:=Own.grown ((lF.out.own.keep (bD (bR w4))).alloc _) hg5 (fun g hg=>Own.apart lF.out.own nJ.out (by decide) g hg);obtain ⟨g',hg',-,VB,uN,BI⟩:=Own.G5 hown5 (by omega);injection hg' with hg';injection hg' with hg' _ _;subst hg';obtain ⟨-,-,-,f2⟩:=BI bb hbl;have hf2:=uN (bb*4+3);have zJ:=Lib.hid (kD.aa9 (by decide) (lF.out.keep (bA (bD (bR w4)) _)) hbl (wL:=⟨A5,N.length+1,c5⟩) (c:=nd.id) (by rw [vN.out];exact iY) (by rw [EM.out];exact hg5) (by rw [EM.out];exact rU));have bV:=Lib.hid (aj.far (p:=⟨g,bb*4+3,none⟩) (aj.grown ((dI.out.drew).alloc _) hg5 (fun e=>Own.dU nJ.out dI.out (by decide) e.symm)) (fun e=>Own.dU lF.out.own dI.out (by decide) (by rw [e];rfl)) (.slice A5 (N.length+1) c5));have dM:=Lib.hid (bS (p:=⟨g,bb*4+3,none⟩) (bG (bA (bD HB4.out) _) hg5 (fun g hg=>(nJ.out.lt g hg).1)) hg0 (.slice A5 (N.length+1) c5));have hS:iq (w.heap.size) w4 w5:=Below.grown (show Below w.heap.size w4 _ from aA.out) hg5 (Nat.le_trans Jj (show Below w.heap.size w4 _ from aA.out).size) (fun g hg=>(nJ.out.lt g hg).1);clear iY hg5 rU hown5 BI uN e2;clear aA;refine hK.out _ _ hS (fun _=>?_);clear hK K
         try simp only [pu]
         iterate 2
          apply jV;exact au;exact rfl;exact hS;exact rfl
          · intro _ hqc;go_simp;try rfl
          try simp only [pu]
         refine aW (i:=13) (aH au rfl) (fun K hK=>?_);have aA:=Lib.hid hS;clear hS;refine aN (aV rfl) ?_;go_simp;refine hK.out _ _ (by unfold iq;have h:Below _ _ _:=aA.out;repeat (first | with_reducible assumption | with_reducible exact Below.refl _ _ | with_reducible refine qJ ?_ (by first | omega | (simp;omega)) _ | with_reducible refine Below.drew ?_ | with_reducible refine kQ (by omega) ?_ _ | exact h)) ?_;intro hS;clear hK K aA
         try simp only [pu]
         refine bQ ?_;refine aC.down _ _ ?_;have hB:Below (w.heap.size) w4 _:=hS;clear hS aC au;go_wp2_with fail;go_roundw
         case rel => exact ⟨k+1,_,by omega,by go_num,by rw [List.length_set];exact hl4,zJ.out,by rw [mD.out];exact HD.out.lone nZ.out hbl nd ⟨A5,N.length+1,c5⟩ HDe.out QV.out,HT.out.set hbl rfl rfl,bV.out,dM.out⟩
         case measure => simp [intOf];omega
        ·have aA:=Lib.hid hS;clear hS;refine aN (aV rfl) ?_;go_simp;refine hK.out _ _ aA.out (fun hS=>?_);clear hK K aA
         try simp only [pu]
         refine xG (i:=6) (j:=9) (aH au rfl) (aH au rfl) (fun K hK=>?_) (fun K hK=>?_)
         ·have aA:=Lib.hid hS;clear hS;refine aN (aV rfl) ?_;go_simp;refine hK.out _ _ aA.out (fun hS=>?_);clear hK K aA
          try simp only [pu]
          refine aW (i:=9) (aH au rfl) (fun K hK=>?_);have aA:=Lib.hid hS;clear hS;refine aN (aV rfl) ?_;go_simp;refine hK.out _ _ (kQ (by omega) aA.out _) (fun hS=>?_);clear hK K aA
          try simp only [pu]
          refine aW (i:=10) (aH au rfl) (fun K hK=>?_);have aA:=Lib.hid hS;clear hS;refine aN (aV rfl) ?_;refine BP (.tmp 101) (.tmp 104) _ rfl (base:=w.heap.size) zQ xC zS rfl ((nJ.out.keep (bD (bR w4))).alloc _) rfl (l2:=[nd.id]) (Sl.lit (n:=1) (aj.made rfl _ _) rfl (fQ (by omega))) (by simp only [List.length_cons,List.length_nil];omega) (by simp only [List.length_cons,List.length_nil];omega) (by simp;omega) ?_;intro v5 w5 iY hg5 rU;obtain ⟨A5,c5,hv5,-⟩:=Own.qM iY;rw [fD.out] at hv5;subst hv5;have hown5:=Own.grown ((lF.out.own.keep (bD (bR w4))).alloc _) hg5 (fun g hg=>Own.apart lF.out.own nJ.out (by decide) g hg);obtain ⟨g',hg',-,VB,uN,BI⟩:=Own.G5 hown5 (by omega);injection hg' with hg';injection hg' with hg' _ _;subst hg';obtain ⟨-,-,-,f2⟩:=BI bb hbl;have hf2:=uN (bb*4+3);have zJ:=Lib.hid (kD.aa9 (by decide) (lF.out.keep (bA (bD (bR w4)) _)) hbl (wL:=⟨A5,N.length+1,c5⟩) (c:=nd.id) (by rw [vN.out];exact iY) (by rw [EM.out];exact hg5) (by rw [EM.out];exact rU));have bV:=Lib.hid (aj.far (p:=⟨g,bb*4+3,none⟩) (aj.grown ((dI.out.drew).alloc _) hg5 (fun e=>Own.dU nJ.out dI.out (by decide) e.symm)) (fun e=>Own.dU lF.out.own dI.out (by decide) (by rw [e];rfl)) (.slice A5 (N.length+1) c5));have dM:=Lib.hid (bS (p:=⟨g,bb*4+3,none⟩) (bG (bA (bD HB4.out) _) hg5 (fun g hg=>(nJ.out.lt g hg).1)) hg0 (.slice A5 (N.length+1) c5));have hS:iq (w.heap.size) w4 w5:=Below.grown (show Below w.heap.size w4 _ from aA.out) hg5 (Nat.le_trans Jj (show Below w.heap.size w4 _ from aA.out).size) (fun g hg=>(nJ.out.lt g hg).1);clear iY hg5 rU hown5 BI uN e2;clear aA;refine hK.out _ _ hS (fun _=>?_);clear hK K
          try simp only [pu]
          iterate 2
           apply jV;exact au;exact rfl;exact hS;exact rfl
           · intro _ hqc;go_simp;try rfl
           try simp only [pu]
          refine aW (i:=13) (aH au rfl) (fun K hK=>?_);have aA:=Lib.hid hS;clear hS;refine aN (aV rfl) ?_;go_simp;refine hK.out _ _ (by unfold iq;have h:Below _ _ _:=aA.out;repeat (first | with_reducible assumption | with_reducible exact Below.refl _ _ | with_reducible refine qJ ?_ (by first | omega | (simp;omega)) _ | with_reducible refine Below.drew ?_ | with_reducible refine kQ (by omega) ?_ _ | exact h)) ?_;intro hS;clear hK K aA
          try simp only [pu]
          refine bQ ?_;refine aC.down _ _ ?_;have hB:Below (w.heap.size) w4 _:=hS;clear hS aC au;go_wp2_with fail;go_roundw
          case rel => exact ⟨k+1,_,by omega,by go_num,by rw [List.length_set];exact hl4,zJ.out,by rw [mD.out];exact HD.out.lone nZ.out hbl nd ⟨A5,N.length+1,c5⟩ HDe.out QV.out,HT.out.set hbl rfl rfl,bV.out,dM.out⟩
          case measure => simp [intOf];omega
         ·have aA:=Lib.hid hS;clear hS;refine aN (aV rfl) ?_;go_simp;refine hK.out _ _ (kQ (by omega) aA.out _) (fun hS=>?_);clear hK K aA
          try simp only [pu]
          refine aW (i:=6) (aH au rfl) (fun K hK=>?_);have aA:=Lib.hid hS;clear hS;refine aN (aV rfl) ?_;go_simp;refine hK.out _ _ aA.out (fun hS=>?_);clear hK K aA
          try simp only [pu]
          refine aW (i:=10) (aH au rfl) (fun K hK=>?_);have aA:=Lib.hid hS;clear hS;refine aN (aV rfl) ?_;refine BP (.tmp 101) (.tmp 104) _ rfl (base:=w.heap.size) zQ xC zS rfl ((nJ.out.keep (bD (bR w4))).alloc _) rfl (l2:=[nd.id]) (Sl.lit (n:=1) (aj.made rfl _ _) rfl (fQ (by omega))) (by simp only [List.length_cons,List.length_nil];omega) (by simp only [List.length_cons,List.length_nil];omega) (by simp;omega) ?_;intro v5 w5 iY hg5 rU;obtain ⟨A5,c5,hv5,-⟩:=Own.qM iY;rw [fD.out] at hv5;subst hv5;have hown5:=Own.grown ((lF.out.own.keep (bD (bR w4))).alloc _) hg5 (fun g hg=>Own.apart lF.out.own nJ.out (by decide) g hg);obtain ⟨g',hg',-,VB,uN,BI⟩:=Own.G5 hown5 (by omega);injection hg' with hg';injection hg' with hg' _ _;subst hg';obtain ⟨-,-,-,f2⟩:=BI bb hbl;have hf2:=uN (bb*4+3);have zJ:=Lib.hid (kD.aa9 (by decide) (lF.out.keep (bA (bD (bR w4)) _)) hbl (wL:=⟨A5,N.length+1,c5⟩) (c:=nd.id) (by rw [vN.out];exact iY) (by rw [EM.out];exact hg5) (by rw [EM.out];exact rU));have bV:=Lib.hid (aj.far (p:=⟨g,bb*4+3,none⟩) (aj.grown ((dI.out.drew).alloc _) hg5 (fun e=>Own.dU nJ.out dI.out (by decide) e.symm)) (fun e=>Own.dU lF.out.own dI.out (by decide) (by rw [e];rfl)) (.slice A5 (N.length+1) c5));have dM:=Lib.hid (bS (p:=⟨g,bb*4+3,none⟩) (bG (bA (bD HB4.out) _) hg5 (fun g hg=>(nJ.out.lt g hg).1)) hg0 (.slice A5 (N.length+1) c5));have hS:iq (w.heap.size) w4 w5:=Below.grown (show Below w.heap.size w4 _ from aA.out) hg5 (Nat.le_trans Jj (show Below w.heap.size w4 _ from aA.out).size) (fun g hg=>(nJ.out.lt g hg).1);clear iY hg5 rU hown5 BI uN e2;clear aA;refine hK.out _ _ hS (fun _=>?_);clear hK K
          try simp only [pu]
          iterate 2
           apply jV;exact au;exact rfl;exact hS;exact rfl
           · intro _ hqc;go_simp;try rfl
           try simp only [pu]
          refine aW (i:=13) (aH au rfl) (fun K hK=>?_);have aA:=Lib.hid hS;clear hS;refine aN (aV rfl) ?_;go_simp;refine hK.out _ _ (by unfold iq;have h:Below _ _ _:=aA.out;repeat (first | with_reducible assumption | with_reducible exact Below.refl _ _ | with_reducible refine qJ ?_ (by first | omega | (simp;omega)) _ | with_reducible refine Below.drew ?_ | with_reducible refine kQ (by omega) ?_ _ | exact h)) ?_;intro hS;clear hK K aA
          try simp only [pu]
          refine bQ ?_;refine aC.down _ _ ?_;have hB:Below (w.heap.size) w4 _:=hS;clear hS aC au;go_wp2_with fail;go_roundw
          case rel => exact ⟨k+1,_,by omega,by go_num,by rw [List.length_set];exact hl4,zJ.out,by rw [mD.out];exact HD.out.lone nZ.out hbl nd ⟨A5,N.length+1,c5⟩ HDe.out QV.out,HT.out.set hbl rfl rfl,bV.out,dM.out⟩
          case measure => simp [intOf];omega
       ·have h1:(dg == 0)=false:=by simpa using h0
        have HPq:=Lib.hid (VD.out h0);clear h0 VE VD;go_wp2_with fail;go_roundw
        case rel => exact ⟨k+1,L3,by omega,by go_num,hl4,rQ.out,by rw [mD.out];exact HPq.out,HT.out,iR.out,HB3.out⟩
        case measure => simp [intOf];omega
      ·have hkk:k=p.nodes.length:=by omega
       subst hkk;have hd:=HD.out;rw [List.take_length] at hd;have Qx:=Lib.hid hd;clear hd X1;go_wp2_with fail;go_ret;exact ⟨A,c,L3,by rw [hl4];rfl,Hb.out,by rw [hl4];exact HA.out,Qx.out,HT.out⟩
end Go.Proofs.YtialfdomhoojiaaGreat
