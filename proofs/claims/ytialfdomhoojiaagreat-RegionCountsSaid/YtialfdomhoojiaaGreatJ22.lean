import Derived.Test.YtialfdomhoojiaaGreatJ21
set_option linter.unusedSimpArgs false
set_option linter.unusedVariables false
namespace Go.Proofs.YtialfdomhoojiaaGreat
open Go.RowKit
def aoS (w:World) (p:Pl) (e:Ending) (w':World):Prop :=
 ∃ A c L,e=.returned (.slice A L.length c)/\Below w.heap.size w w'/\jP 82 w w' w.heap.size (.slice A L.length c) L/\jf p L (aN p) (iP p) p.nodes/\uJ p L
def ad0:AD:=⟨0,[],sv0,[],sv0,[],sv0⟩
def Lp (p:Pl) (k:Nat):List (List Int):=((aY p).take k).filter (fun X=>decide (0<eY p X))
def Lr (p:Pl) (k:Nat):List (List Int):=((aY p).take k).filter (fun X=>!decide (0<eY p X))
theorem aoT {p:Pl} {k:Nat} (hk:k<(aY p).length):Lp p (k+1)=Lp p k++(if 0<eY p (aY p)[k] then [(aY p)[k]] else []):=by
 unfold Lp;rw [List.take_succ_eq_append_getElem hk,List.filter_append,List.filter_cons];simp only [decide_eq_true_eq,List.filter_nil]
theorem aoU {p:Pl} {k:Nat} (hk:k<(aY p).length):Lr p (k+1)=Lr p k++(if 0<eY p (aY p)[k] then [] else [(aY p)[k]]):=by
 unfold Lr;rw [List.take_succ_eq_append_getElem hk,List.filter_append,List.filter_cons];by_cases h:0<eY p (aY p)[k]<;>simp [h]
theorem aoV (p:Pl):Lp p (aY p).length=aN p:=by unfold Lp aN;rw [List.take_length]
theorem aoW (p:Pl):Lr p (aY p).length=iP p:=by unfold Lr iP;rw [List.take_length]
theorem af7 {CL:List (List Int×SV)} {C:List (List Int)} (h:CL.map (·.1)=C) {k:Nat} (hk:k<CL.length) (hk2:k<C.length):C[k]=CL[k].1:=by
 subst h;rw [List.getElem_map]
theorem aoX {CL:List (List Int×SV)} {C:List (List Int)} (h:CL.map (·.1)=C) {k:Nat} (hk:k<CL.length):C.take (k+1)=C.take k++[CL[k].1]:=by
 subst h;rw [List.take_succ_eq_append_getElem (by simpa using hk),List.getElem_map]
set_option maxRecDepth 100000 in
set_option maxHeartbeats 8000000 in
theorem af8 (v vc:Value) (p:Pl) (CL:List (List Int×SV)) (gm:Nat) (f:Int->SV) (w:World) (h:dS w v p) (hv:Valid p) (hc:Pn w vc CL) (hcl:CL.map (·.1)=aY p) (hpm:qQ w gm p f) :
  Calls Tryz.prog 58 #[v,vc,.map (some gm)] w (aoS w p):=by
 have KX:=Lib.hid (fun u l (hl:l∈aY p) W (hu:Ints W u l) (hW:Below w.heap.size w W)=>show Calls Tryz.prog 120 #[v,u] W fun e w'=>e=.returned (.int .i64 (eY p l))/\Below W.heap.size W w' from by
  have t:=ali v u p l W (h.mono hW) hu hv (fun d hd=>by have:=hv.Dv ((hv.kK hl).2 d hd);exact kQ (by omega) (by omega));rw [hv.anU hl] at t;exact t)
 have CJ:=Lib.hid (fun id W (hW:Below w.heap.size w W)=>ab3 v p id W (h.mono hW) (by have:=hv.lim;unfold nN at this;simp only [Bool.or_eq_false_iff,decide_eq_false_iff_not] at this;omega));have aaf:=fun W (hW:Below w.heap.size w W)=>afl W gm p f (hpm.keep hW) hv;unfold aZ at aaf;have Ls:=Lib.hid aaf;clear aaf;have lX:=Lib.hid hpm;have HV:=Lib.hid hv;have hnl:=hv.KU;have hcn:=hv.DF;have hll:CL.length=(aY p).length:=by rw [<- hcl,List.length_map]
 have xJ:=Lib.hid hcl;have DR:=Lib.hid hll;have pG:=Lib.hid hv.Zq;obtain ⟨⟨Ac,cc,rfl,hc1,hc2,mW⟩,hI⟩:=hc;obtain ⟨_,_,_,al,rfl,hpa,⟨An,cn,rfl,hn1,hn2,hR⟩,⟨⟨Aa,ca,rfl,-⟩,-⟩,⟨Af,cf,rfl,-⟩⟩:=h;unfold maxLen at hc2 hn2;have BD:=Lib.hid mW;have HI:=Lib.hid hI;have HRn:=Lib.hid hR;have atq:CL.length<=512:=by omega
 generalize p.faces.length=nf at *;generalize al.length=na at *;clear hpa mW hI hR hv hpm hcl hll hcn;go_enter Tryz.func58,Tryz.ntmps58;go_upto_region 2 with fail;obtain ⟨W1,hW⟩:∃ W:World,W=(w.alloc (.cells #[.slice An p.nodes.length cn,.slice Aa na ca,.slice Af nf cf] 26)).alloc (.cells #[.int .i64 0,.slice none 0 0,.slice none 0 0,.slice none 0 0] 82):=⟨_,rfl⟩;have X1:aj W1 w.heap.size 26 #[.slice An p.nodes.length cn,.slice Aa na ca,.slice Af nf cf]:=by rw [hW];exact (aj.made rfl _ _).alloc _
 have lS:=Lib.hid (show Own W1 w.heap.size 82 4 dH (.slice (some ⟨w.heap.size+1,0,none⟩) 1 1) [ad0] by rw [hW];exact Own.lit _ _ _ _ _ _ _ _ _ (by simp) rfl (by simp) (dW (by omega)) rfl rfl);have HB1:=Lib.hid (show Below w.heap.size w W1 by rw [hW];exact bA (bA (bR w) _) _);rw [<- hW];clear hW;have HA1:=Lib.hid (show jP 82 w W1 w.heap.size (.slice (some ⟨w.heap.size+1,0,none⟩) 1 1) [ad0] from ⟨lS.out,(fun x hx=>by rw [List.mem_singleton] at hx;subst hx;exact Sl.nil w),(fun x hx=>by rw [List.mem_singleton] at hx;subst hx;exact Own.nil _ _ _ _ _),(fun x hx=>by rw [List.mem_singleton] at hx;subst hx;intro c hc;cases hc),(fun x hx=>by rw [List.mem_singleton] at hx;subst hx;exact Own.nil _ _ _ _ _),List.pairwise_singleton _ _,List.pairwise_singleton _ _⟩);have eH:=Lib.hid X1;clear X1 lS;go_upto_block 0 with fail;go_wp2_with fail;go_loopw [7,8,23] (fun s r i wr=>∃ (k:Nat) (L:List AD) (R:List (List Int×SV)),k<=CL.length/\i=.int .i64 k/\(∃ A c,s=.slice A L.length c)/\(∃ A c,r=.slice A R.length c)/\jP 82 w wr w.heap.size s L/\Own wr w.heap.size 24 1 kY r R/\jf p L (Lp p k) [] []/\uJ p L/\R.map (·.1)=Lr p k/\(∀ x∈R,Ints w (aH x.2) x.1)/\(∀ x∈L,x.iv=sv0)/\L.length<=k+1/\R.length<=k/\aj wr w.heap.size 26 #[.slice An p.nodes.length cn,.slice Aa na ca,.slice Af nf cf]/\Below w.heap.size w wr) (fun _ _ i _=>CL.length-(intOf i).toNat)
 case atStart => exact ⟨0,[ad0],[],Nat.zero_le _,rfl,⟨_,_,rfl⟩,⟨_,_,rfl⟩,HA1.out,Own.nil _ _ _ _ _,jf.start p ad0 rfl rfl rfl,uJ.one p ad0,rfl,(fun x hx=>by cases hx),(fun x hx=>by rw [List.mem_singleton] at hx;subst hx;rfl),by simp,by simp,eH.out,HB1.out⟩
 case round =>
  obtain ⟨k,L,R,hk,rfl,⟨A,c,rfl⟩,⟨A',c',rfl⟩,had,hor,hdv,htw,hrm,Pq,hiv,hl1,hl2,X1,hb⟩:=hrel;obtain ⟨wo,rfl⟩:∃ wo:World,wo=wr:=⟨_,rfl⟩;have HA:=Lib.hid had;have HO:=Lib.hid hor;have HD:=Lib.hid hdv;have HT:=Lib.hid htw;have Un:=Lib.hid hrm;have DI:=Lib.hid Pq;have Pv:=Lib.hid hiv;have HX:=Lib.hid X1;have Hb:=Lib.hid hb;clear had hor hdv htw hrm Pq hiv hb eH HA1 HB1;by_cases hlt:k<CL.length
  ·have hlc:k<(aY p).length:=by have:=DR.out;omega
   obtain ⟨b,o,rfl,hlb,c0⟩:=(BD.out.mono Hb.out).cy hlt;have hin:=HI.out CL[k] (List.getElem_mem hlt);have hmem:(aY p)[k]∈aY p:=List.getElem_mem hlc;have hos:=aoT hlc;have hrs:=aoU hlc;rw [af7 xJ.out hlt hlc] at hmem hos hrs;generalize CL[k]=x at *;obtain ⟨l,xs⟩:=x;obtain ⟨xa,xn,xc⟩:=xs;simp only at hin c0 hmem hos hrs;have nY:=Lib.hid hin;have kL:=Lib.hid (fun W (hW:Below w.heap.size w W)=>KX.out _ l hmem W (hin.mono hW) hW);obtain ⟨t,ht⟩:∃ t,eY p l=t:=⟨_,rfl⟩;rw [ht] at kL hos hrs;have HTe:=Lib.hid ht;have KP:=Lib.hid hos;have HRs:=Lib.hid hrs;clear hin hmem hlc ht hos hrs;obtain ⟨aI,aJ,aK,aP,-,-,-⟩:=X1.bC;go_upto_region 7 with fail;go_wp2_with fail;refine (kL.out _ Hb.out).mono ?_;rintro e w2 ⟨rfl,hb2⟩;have HB2:=Lib.hid (bT Hb.out hb2);have HA2:=Lib.hid (HA.out.keep hb2);have fM:=Lib.hid (HO.out.keep hb2);have bY:=Lib.hid (HX.out.keep hb2);have hz2:=HB2.out.size;clear hb2 X1 aI aJ aK aP c0 hlb kL HA HO HX Hb;by_cases h0:0<t
   ·have hos:=KP.out;have hrs:=HRs.out;rw [if_pos h0] at hos hrs;rw [List.append_nil] at hrs;have aag:=Lib.hid hos;have aah:=Lib.hid hrs;clear hos hrs;have n1:=Own.dM HA2.out.own bY.out (by decide);go_upto_region 10 with
     (at_builtin
      refine jH _ rfl (.tmp 32) (.tmp 36) _ rfl (base:=w.heap.size) anJ uI Tn rfl (Own.alloc HA2.out.own _) rfl (l2:=[(⟨t,l,⟨xa,xn,xc⟩,[],sv0,[],sv0⟩:AD)]) (Sl.lit (n:=1) (aj.made rfl _ _) rfl (dW (by omega))) (by simp only [List.length_cons,List.length_nil];omega) (by simp only [List.length_cons,List.length_nil];omega) (by simp;omega) ?_;intro v3 w3 ho3 hg3 lY;obtain ⟨A3,c3,hv3,-⟩:=Own.mY ho3;have hsh:(L++[(⟨t,l,⟨xa,xn,xc⟩,[],sv0,[],sv0⟩:AD)]).length=L.length+1:=by simp
      rw [hsh] at hv3;subst hv3;have ou:=Lib.hid (jP.more (by decide) (HA2.out.keep (bA (bR w2) _)) ho3 hg3 nY.out rfl rfl rfl rfl);have fE:=Lib.hid (Own.grown (Own.alloc fM.out _) hg3 (fun g hg=>Own.apart fM.out HA2.out.own (by decide) g hg));have iE:=Lib.hid (aj.grown (bY.out.alloc _) hg3 (fun e=>n1 e.symm));have HB3:=Lib.hid (bG (bA HB2.out _) hg3 (fun g hg=>(HA2.out.own.lt g hg).1));clear ho3 hg3 lY
      )
    clear n1;go_wp2_with fail;go_roundw
    case rel => exact ⟨k+1,_,R,by omega,by go_num,⟨A3,c3,by rw [hsh]⟩,⟨_,_,rfl⟩,ou.out,fE.out,by rw [aag.out];exact HD.out.more rfl rfl _ rfl rfl,HT.out.more HTe.out.symm,by rw [aah.out];exact Un.out,DI.out,(fun x hx=>by
      rcases List.mem_append.1 hx with hx | hx
      · exact Pv.out x hx
      · rw [List.mem_singleton] at hx;subst hx;rfl),by rw [hsh];omega,by omega,iE.out,HB3.out⟩
    case measure => simp [intOf];omega
   ·have hos:=KP.out;have hrs:=HRs.out;rw [if_neg h0] at hos hrs;rw [List.append_nil] at hos;have aag:=Lib.hid hos;have aah:=Lib.hid hrs;clear hos hrs;have n1:=Own.dM fM.out bY.out (by decide);go_upto_region 10 with
     (at_builtin
      refine jH _ rfl (.tmp 38) (.tmp 40) _ rfl (base:=w.heap.size) OT OO OQ rfl (Own.alloc fM.out _) rfl (l2:=[((l,⟨xa,xn,xc⟩):List Int×SV)]) (Sl.lit (n:=1) (aj.made rfl _ _) rfl (dW (by omega))) (by simp only [List.length_cons,List.length_nil];omega) (by simp only [List.length_cons,List.length_nil];omega) (by simp;omega) ?_;intro v3 w3 ho3 hg3 lY;obtain ⟨A3,c3,hv3,-⟩:=Own.mY ho3;have hsh:(R++[((l,⟨xa,xn,xc⟩):List Int×SV)]).length=R.length+1:=by simp
      rw [hsh] at hv3;subst hv3;have fE:=Lib.hid ho3;have ou:=Lib.hid (jP.aoQ (by decide) (HA2.out.keep (bA (bR w2) _)) hg3 (Own.alloc fM.out _) Pv.out);have iE:=Lib.hid (aj.grown (bY.out.alloc _) hg3 (fun e=>n1 e.symm));have HB3:=Lib.hid (bG (bA HB2.out _) hg3 (fun g hg=>(fM.out.lt g hg).1));clear ho3 hg3 lY
      )
    clear n1;go_wp2_with fail;go_roundw
    case rel => exact ⟨k+1,L,_,by omega,by go_num,⟨_,_,rfl⟩,⟨A3,c3,by rw [hsh]⟩,ou.out,fE.out,by rw [aag.out];exact HD.out,HT.out,by rw [aah.out,List.map_append,Un.out];rfl,(fun x hx=>by
      rcases List.mem_append.1 hx with hx | hx
      · exact DI.out x hx
      · rw [List.mem_singleton] at hx;subst hx;exact nY.out),Pv.out,by omega,by rw [hsh];omega,iE.out,HB3.out⟩
    case measure => simp [intOf];omega
  ·have hkk:k=CL.length:=by omega
   subst hkk;have hd0:=HD.out;have hd:=HD.out;have hrm:=Un.out;rw [DR.out,aoV] at hd;rw [DR.out,aoW] at hrm;have hsep:∀ x∈L,lH (aH x.iv) (.slice A' R.length c'):=fun x hx=>by rw [Pv.out x hx];intro g hg;cases hg
   have HD3:=Lib.hid hd;have aai:=Lib.hid hrm;have BN:=Lib.hid hsep;have hl0:0<L.length:=by have:=hd0.len;omega
   clear HD Un Pv hd hd0 hrm hsep X1 xJ HI BD KX;go_upto_block 2 with fail;go_wp2_with fail;go_loopw [45] (fun i wr=>∃ (j:Nat) (L2:List AD),j<=R.length/\i=.int .i64 j/\L2.length=L.length/\jP 82 w wr w.heap.size (.slice A L.length c) L2/\Own wr w.heap.size 24 1 kY (.slice A' R.length c') R/\jf p L2 (aN p) ((iP p).take j) []/\uJ p L2/\(∀ x∈L2,lH (aH x.iv) (.slice A' R.length c'))/\aj wr w.heap.size 26 #[.slice An p.nodes.length cn,.slice Aa na ca,.slice Af nf cf]/\Below w.heap.size w wr) (fun i _=>R.length-(intOf i).toNat)
   case atStart => exact ⟨0,L,Nat.zero_le _,rfl,rfl,HA.out,HO.out,by rw [List.take_zero];exact HD3.out,HT.out,BN.out,HX.out,Hb.out⟩
   case round =>
    clear HA HO HD3 HT BN HX Hb;obtain ⟨j,L2,hj,rfl,hl3,had,hor,hdv,htw,hsp,X1,hb⟩:=hrel;obtain ⟨wo,rfl⟩:∃ wo:World,wo=wr:=⟨_,rfl⟩;have HA:=Lib.hid had;have HO:=Lib.hid hor;have HD:=Lib.hid hdv;have HT:=Lib.hid htw;have HS:=Lib.hid hsp;have HX:=Lib.hid X1;have Hb:=Lib.hid hb;clear had hor hdv htw hsp hb;by_cases hlj:j<R.length
    ·have hrl:=HO.out.lt;obtain ⟨b,o,hA',hlb,c0⟩:=(HO.out.row_of).cy hlj;subst hA';have htk:=aoX aai.out hlj;have hmem:R[j].1∈iP p:=by rw [<- aai.out];exact List.mem_map_of_mem (List.getElem_mem hlj)
     have hin:=DI.out R[j] (List.getElem_mem hlj);generalize R[j]=x at *;obtain ⟨l,xa,xn,xc⟩:=x;unfold aH at hin;simp only at hin c0 htk hmem;have hcm:=(zC.1 hmem).1;have hne:=HV.out.OV hcm;have hkl:0<l.length:=List.length_pos_iff.2 hne;have hhd:l.headD 0=l[0]:=by
      cases l with
      | nil=>exact absurd rfl hne
      | cons d l'=>rfl
     have hdd:l[0]∈aQ p:=(HV.out.kK hcm).2 _ (List.getElem_mem hkl);obtain ⟨a,ha,aoY,hpt⟩:=HV.out.BA hdd;have hcp:oO p l=(au p a).getD 0 aB:=by unfold oO;rw [hhd,hpt]
     have hid:=HV.out.jC ha;have hlen:2<=(au p a).length:=by have:=fJ p a;omega
     have wW:=HV.out.Bh ha;have hpl:(au p a).length<=66:=by have:=fJ p a;omega
     have nv:=HV.out.bV ha (k:=0) (by omega);have Uo:0<(au p a).length:=by omega
     have egd:(au p a).getD 0 aB=(au p a)[0]:=by simp only [List.getD_eq_getElem?_getD,List.getElem?_eq_getElem Uo,Option.getD_some]
     rw [egd] at hcp nv;obtain ⟨n,hmp⟩:=(lX.out.keep Hb.out).mp;have hlk:=(hmp.keep (bD (bR wo))).look a.id (kQ (by omega) (by omega));have pq:=lX.out.rd a ha;have k1:IntKind.i64.wrap (-l[0])=-l[0]:=IntWalk.i64_in _ (by omega);have km:max l[0] (-l[0])=a.id:=by omega
     have nY:=Lib.hid hin;obtain ⟨Al,cl,hel,-,-,hRl⟩:=hin.mono Hb.out;injection hel with y1 y2 y3;subst y1 y2 y3;obtain ⟨bl,ol,aaj,aak,d0⟩:=(hRl).int hkl;subst aaj;simp only [Nat.add_zero] at d0;have kz:(0:Int)<l.length:=by omega
     have kn:¬ l=[]:=hne;generalize f a.id=y at *;obtain ⟨Ap,np,cp⟩:=y;unfold aH at hlk pq;have Fv:=Lib.hid pq;obtain ⟨KD,cp',he,hp1,hp2,-⟩:=pq;injection he with y1 y2 y3;subst y1 y2 y3;unfold maxLen at hp2;have kL:=Lib.hid htk;have Uk:=Lib.hid hcp;have Lu:=Lib.hid nv;have HKn:=Lib.hid hkl;clear hmp hdd htk hmem hpt aoY ha wW hcm hhd hne hcp nv egd;generalize a.id=ai at *;generalize au p a=P at *;generalize l[0]=dd at *;clear hid;go_upto_region 14 with fail;refine bZ (Since wo) (.run 9 0 0 (.call 9 1023 (.take 10 2047 (.done)))) (by kernel_rfl) (bD (bR _)) (by kernel_rfl) (by kernel_rfl) (Nat.le_of_ble_eq_true (by kernel_rfl)) ?_;intro cO QR ak aC hS
     iterate 9
      apply bg;exact ak;exact rfl;exact hS;exact rfl
      · intro _ hqc;go_simp;try rfl
      try simp only [pu]
     refine aT (i:=9) (aG ak rfl) (fun K hK=>?_);have aA:=Lib.hid hS;clear hS;refine aO (aV rfl) ?_;go_simp;refine hK.out _ _ aA.out (fun hS=>?_);clear hK K aA
     try simp only [pu]
     apply bg;exact ak;exact rfl;exact hS;exact rfl
     · intro _ hqc;go_simp;try rfl
     try simp only [pu]
     refine bM ?_;refine aC.down _ _ ?_;have hB:Below wo.heap.size wo wo.drew:=hS;clear hS aC ak;obtain ⟨W3,hW3⟩:∃ W:World,W=wo.drew:=⟨_,rfl⟩;rw [<- hW3] at hB ⊢;have HB3:=Lib.hid (bT Hb.out hB);have ou:=Lib.hid (HA.out.keep hB);have fE:=Lib.hid (HO.out.keep hB);have iE:=Lib.hid (HX.out.keep hB);clear hW3 hB HA HO HX Hb c0 d0 hlk k1 km hlb aak X1;obtain ⟨KD,cp',he,-,-,vG⟩:=Fv.out.mono HB3.out;injection he with y1 y2 y3;subst y1 y3;clear y2;obtain ⟨bp,op,mX,hlp,e10,e11⟩:=(vG).pt Uo;subst mX;simp only [Nat.zero_mul,Nat.add_zero] at e10 e11;clear vG;have kz2:(0:Int)<P.length:=by omega
     have kn2:¬ P=[]:=fun e=>by rw [e] at Uo;simp at Uo
     have HF:=Lib.hid (Ls.out W3 HB3.out (.slice A L.length c) L2 (ou.out.read HB3.out) (fun x hx d hd=>by
      rcases HD.out.Zp hx with e | e
      · rw [e] at hd;cases hd
      · exact (HV.out.kK (kH.1 e).1).2 d hd) (by omega) P[0] Lu.out)
     go_wp2_with fail;refine HF.out.mono ?_;rintro e w4 ⟨⟨bb,rfl,hbx⟩,hb4⟩;obtain ⟨hbl,hhm⟩:=HD.out.home rfl HT.out hbx;rw [<- Uk.out] at hhm;have Px:=Lib.hid hhm;have HB4:=Lib.hid (bT HB3.out hb4);have kP:=Lib.hid (ou.out.keep hb4);have sZ:=Lib.hid (fE.out.keep hb4);have dn:=Lib.hid (iE.out.keep hb4);have atr:=hb4.size;clear hb4 HF HB3 ou fE iE e10 e11 kz2 kn2 hbx hhm Fv Lu Uk hlp kz kn;obtain ⟨g,hA2,hg0,hgl,-,hce⟩:=Own.FN kP.out.own (by omega);subst hA2;obtain ⟨-,-,e2,-⟩:=hce bb hbl;have vX:=kP.out.inn _ (List.getElem_mem hbl);have hse:=HS.out _ (List.getElem_mem hbl);have hNl:L2[bb].inn.length<=512:=by
      have:=congrArg List.length (HD.out.inn bb hbl)
      rw [List.length_map] at this;rw [this];exact Nat.le_trans (List.length_filter_le _ _) (by rw [List.length_take];omega)
     obtain ⟨iv,hiv⟩:∃ iv,L2[bb].iv=iv:=⟨_,rfl⟩;obtain ⟨N,hN⟩:∃ N,L2[bb].inn=N:=⟨_,rfl⟩;rw [hiv,hN] at vX;rw [hiv] at e2 hse;rw [hN] at hNl;obtain ⟨ia,iT,ic⟩:=iv;unfold aH at vX e2 hse;have DT:=Lib.hid hiv;have uM:=Lib.hid hN;have HSe:=Lib.hid hse;have mg:=Lib.hid vX;clear hiv hN hce hse vX;have kb1:(bb:Int)<L.length:=by omega
     have kb2:0<=(bb:Int):=by omega
     have hsh:(N++[((l,⟨some ⟨bl,ol,none⟩,l.length,xc⟩):List Int×SV)]).length=N.length+1:=by simp
     have eu:=Lib.hid hsh;clear hsh;go_upto_region 17 with
      (at_builtin
       refine jH _ rfl (.tmp 71) (.tmp 73) _ rfl (base:=w.heap.size) OT OO OQ rfl (Own.alloc mg.out _) rfl (l2:=[((l,⟨some ⟨bl,ol,none⟩,l.length,xc⟩):List Int×SV)]) (Sl.lit (n:=1) (aj.made rfl _ _) rfl (dW (by omega))) (by simp only [List.length_cons,List.length_nil];omega) (by simp only [List.length_cons,List.length_nil];omega) (by have:=HB4.out.size;simp;omega) ?_;intro v5 w5 gy hg5 oz;obtain ⟨A5,c5,hv5,-⟩:=Own.mY gy;rw [eu.out] at hv5;subst hv5;have hown5:=Own.grown (Own.alloc kP.out.own _) hg5 (fun g hg=>Own.apart kP.out.own mg.out (by decide) g hg);obtain ⟨g',hg',-,Ur,tC,zQ⟩:=Own.FN hown5 (by omega);injection hg' with hg';injection hg' with hg' _ _;subst hg';obtain ⟨-,-,f2,-⟩:=zQ bb hbl;have hf2:=tC (bb*4+2);have vY:=Lib.hid (jP.aoR (by decide) (kP.out.keep (bA (bR w4) _)) hbl (yJ:=⟨A5,N.length+1,c5⟩) (c:=(l,⟨some ⟨bl,ol,none⟩,l.length,xc⟩)) (by rw [uM.out];exact gy) (by rw [DT.out];exact hg5) (by rw [DT.out];exact oz) nY.out);have rX:=Lib.hid (Own.far (p:=⟨g,bb*4+2,none⟩) (Own.grown (Own.alloc sZ.out _) hg5 (fun q hq e=>HSe.out q e.symm hq)) (fun e=>Own.apart sZ.out kP.out.own (by decide) g e rfl) (.slice A5 (N.length+1) c5));have bK:=Lib.hid (aj.far (p:=⟨g,bb*4+2,none⟩) (aj.grown (dn.out.alloc _) hg5 (fun e=>Own.dM mg.out dn.out (by decide) e.symm)) (fun e=>Own.dM kP.out.own dn.out (by decide) (by rw [e];rfl)) (.slice A5 (N.length+1) c5));have dK:=Lib.hid (bS (p:=⟨g,bb*4+2,none⟩) (bG (bA HB4.out _) hg5 (fun g hg=>(mg.out.lt g hg).1)) hg0 (.slice A5 (N.length+1) c5));have HS5:=Lib.hid (show lH (.slice A5 (N.length+1) c5) (.slice (some ⟨b,o,none⟩) R.length c') from fun q hq e=>by
        rcases oz with h | h
        · exact HSe.out q (h.symm.trans hq) e
        ·have h1:=(sZ.out.lt q e).2;rw [hq] at h;have:=Option.some.inj h
         simp at this;omega)
       clear gy hg5 oz hown5 zQ tC e2
       )
     clear f2 hf2 kP sZ dn HB4 mg HSe hgl Ur;go_wp2_with fail;go_roundw
     case rel => exact ⟨j+1,_,by omega,by go_num,by rw [List.length_set];exact hl3,vY.out,rX.out,by rw [kL.out];exact HD.out.inner pG.out hbl l ⟨some ⟨bl,ol,none⟩,l.length,xc⟩ ⟨A5,N.length+1,c5⟩ Px.out,HT.out.set hbl rfl rfl,(fun x hx=>by
       rcases vW hx with ⟨rfl,_⟩ | ⟨q,hq,_,rfl⟩
       · exact HS5.out
       · exact HS.out _ (List.getElem_mem hq)),bK.out,dK.out⟩
     case measure => simp [intOf];omega
    ·have hjj:j=R.length:=by omega
     subst hjj;have hrl:R.length=(iP p).length:=by rw [<- aai.out,List.length_map]
     have hd:=HD.out;rw [hrl,List.take_length] at hd;have HD6:=Lib.hid hd;clear HD HS HO hd hrl X1;have X1:=HX.out
     try clear aI
     try clear aJ
     try clear aK
     try clear aP
     obtain ⟨aI,aJ,aK,aP,-,-,-⟩:=X1.bC;go_upto_block 4 with fail;clear X1 aI aJ aK aP;go_wp2_with fail;go_loopw [81] (fun i wr=>∃ (k:Nat) (L3:List AD),k<=p.nodes.length/\i=.int .i64 k/\L3.length=L.length/\jP 82 w wr w.heap.size (.slice A L.length c) L3/\jf p L3 (aN p) (iP p) (p.nodes.take k)/\uJ p L3/\aj wr w.heap.size 26 #[.slice An p.nodes.length cn,.slice Aa na ca,.slice Af nf cf]/\Below w.heap.size w wr) (fun i _=>p.nodes.length-(intOf i).toNat)
     case atStart => exact ⟨0,L2,Nat.zero_le _,rfl,hl3,HA.out,by rw [List.take_zero];exact HD6.out,HT.out,HX.out,Hb.out⟩
     case round =>
      clear HA HD6 HT HX Hb;obtain ⟨k,L3,hk,rfl,hl4,had,hdv,htw,X1,hb⟩:=hrel;obtain ⟨wo,rfl⟩:∃ wo:World,wo=wr:=⟨_,rfl⟩;have HA:=Lib.hid had;have HD:=Lib.hid hdv;have HT:=Lib.hid htw;have HX:=Lib.hid X1;have Hb:=Lib.hid hb;clear had hdv htw hb;by_cases hlk:k<p.nodes.length
      ·obtain ⟨b,o,rfl,hlb,c0,c1,c2'⟩:=(HRn.out.mono Hb.out).nd hlk;have htk:p.nodes.take (k+1)=p.nodes.take k++[p.nodes[k]]:=List.take_succ_eq_append_getElem hlk;have nv:=HV.out.Rz (List.getElem_mem hlk);generalize p.nodes[k]=nd at *;have kL:=Lib.hid htk;have Lu:=Lib.hid nv;have HDk:=Lib.hid (fun W (hW:Below w.heap.size w W)=>CJ.out nd.id W hW);have Us:=Lib.hid (fun h0=>HD.out.pass nd h0);clear htk nv;obtain ⟨dg,hdg⟩:∃ dg,iM p.ah nd.id=dg:=⟨_,rfl⟩;rw [hdg] at HDk Us;have HDe:=Lib.hid hdg;clear hdg;go_upto_region 21 with fail;obtain ⟨W2,hW⟩:∃ W:World,W=wo.alloc (.cells #[.int .i64 nd.id,.int .i64 nd.pt.x,.int .i64 nd.pt.y] 45):=⟨_,rfl⟩;have hA:Below wo.heap.size wo W2:=by rw [hW];exact bA (bR wo) _
       have X5:aj W2 wo.heap.size 45 #[.int .i64 nd.id,.int .i64 nd.pt.x,.int .i64 nd.pt.y]:=by rw [hW];exact aj.made rfl _ _
       replace X1:=X1.keep hA;have HA2:=Lib.hid (HA.out.keep hA);have bY:=Lib.hid X1;have bK:=Lib.hid X5;have HB2:=Lib.hid (bT Hb.out hA);have hz2:=Hb.out.size;rw [<- hW];clear hW hA HA HX Hb c0 c1 c2' hlb;obtain ⟨g5,hg5⟩:∃ g5,wo.heap.size=g5:=⟨_,rfl⟩;rw [hg5] at bK X5 hz2 ⊢;clear hg5
       try clear aI
       try clear aJ
       try clear aK
       try clear aP
       obtain ⟨aI,aJ,aK,aP,-,-,-⟩:=X1.bC;obtain ⟨dF,dG,dI,jo,-,-,-⟩:=X5.bC;go_wp2_with fail;refine (HDk.out _ HB2.out).mono ?_;rintro e w3 ⟨rfl,hb3⟩;have HB3:=Lib.hid (bT HB2.out hb3);have ou:=Lib.hid (HA2.out.keep hb3);have iE:=Lib.hid (bY.out.keep hb3);have Ut:=bK.out.keep hb3;have uN:=Lib.hid Ut;clear hb3 X1 aI aJ aK aP X5 dF dG dI jo HDk HA2 bY bK HB2;by_cases h0:dg=0
       ·subst h0;have X5:=Ut;clear Ut Us
        try clear dF
        try clear dG
        try clear dI
        try clear jo
        obtain ⟨dF,dG,dI,jo,-,-,-⟩:=X5.bC;have HF:=Lib.hid (Ls.out w3 HB3.out (.slice A L.length c) L3 (ou.out.read HB3.out) (fun x hx d hd=>by
         rcases HD.out.Zp hx with e | e
         · rw [e] at hd;cases hd
         · exact (HV.out.kK (kH.1 e).1).2 d hd) (by omega) nd.pt Lu.out)
        go_wp2_with fail;refine HF.out.mono ?_;rintro e w4 ⟨⟨bb,rfl,hbx⟩,hb4⟩;obtain ⟨hbl,hhm⟩:=HD.out.home rfl HT.out hbx;have Px:=Lib.hid hhm;have HB4:=Lib.hid (bT HB3.out hb4);have kP:=Lib.hid (ou.out.keep hb4);have dn:=Lib.hid (iE.out.keep hb4);have zS:=Lib.hid (uN.out.keep hb4);have hz4:=hb4.size;clear hb4 HF HB3 ou iE uN X5 dF dG dI jo hbx hhm;obtain ⟨g,hA2,hg0,hgl,-,hce⟩:=Own.FN kP.out.own (by omega);subst hA2;obtain ⟨-,-,-,e2⟩:=hce bb hbl;have vX:=kP.out.bn _ (List.getElem_mem hbl);have hNl:L3[bb].bn.length<=256:=by
         rw [HD.out.bn bb hbl,List.length_map];exact Nat.le_trans (List.length_filter_le _ _) (by rw [List.length_take];omega)
        obtain ⟨iv,hiv⟩:∃ iv,L3[bb].av=iv:=⟨_,rfl⟩;obtain ⟨N,hN⟩:∃ N,L3[bb].bn=N:=⟨_,rfl⟩;rw [hiv,hN] at vX;rw [hiv] at e2;rw [hN] at hNl;obtain ⟨ia,iT,ic⟩:=iv;unfold aH at vX e2;have DT:=Lib.hid hiv;have uM:=Lib.hid hN;have mg:=Lib.hid vX;clear hiv hN hce vX;have kb1:(bb:Int)<L.length:=by omega
        have kb2:0<=(bb:Int):=by omega
        have hsh:(N++[nd.id]).length=N.length+1:=by simp
        have eu:=Lib.hid hsh;clear hsh;have X5:=zS.out
        try clear dF
        try clear dG
        try clear dI
        try clear jo
        obtain ⟨dF,dG,dI,jo,-,-,-⟩:=X5.bC;have EZ:w.heap.size<=w4.heap.size:=HB4.out.size;go_upto_region 23 with fail;refine bZ (gW (w.heap.size) w4) (.run 6 0 0 (.take 7 191 (.two 6 255 (.call 8 511 (.call 9 1023 (.call 10 2047 (.take 11 4095 (.take 12 8191 (.call 13 16383 (.done))))))) 8 447 (.two 6 511 (.call 9 1023 (.call 10 2047 (.take 11 4095 (.take 12 8191 (.call 13 16383 (.done)))))) 9 959 (.call 6 1023 (.call 10 2047 (.take 11 4095 (.take 12 8191 (.call 13 16383 (.done)))))))))) (by kernel_rfl) (Below.drew (Below.refl _ _)) (by kernel_rfl) (by kernel_rfl) (Nat.le_of_ble_eq_true (by kernel_rfl)) ?_;intro cO QR ak aC hS
        iterate 7
         apply lK;exact ak;exact rfl;exact hS;exact rfl
         · intro _ hqc;go_simp;try rfl
         try simp only [pu]
        refine Ae (i:=6) (j:=8) (aG ak rfl) (aG ak rfl) (fun K hK=>?_) (fun K hK=>?_)
        ·have aA:=Lib.hid hS;clear hS;refine aO (aV rfl) ?_;go_simp;refine hK.out _ _ aA.out (fun hS=>?_);clear hK K aA
         try simp only [pu]
         refine aT (i:=8) (aG ak rfl) (fun K hK=>?_);have aA:=Lib.hid hS;clear hS;refine aO (aV rfl) ?_;go_simp;refine hK.out _ _ aA.out (fun hS=>?_);clear hK K aA
         try simp only [pu]
         refine aT (i:=9) (aG ak rfl) (fun K hK=>?_);have aA:=Lib.hid hS;clear hS;refine aO (aV rfl) ?_;go_simp;refine hK.out _ _ (oM (by omega) aA.out _) (fun hS=>?_);clear hK K aA
         try simp only [pu]
         refine aT (i:=10) (aG ak rfl) (fun K hK=>?_);have aA:=Lib.hid hS;clear hS;refine aO (aV rfl) ?_;refine wI (.tmp 101) (.tmp 104) _ rfl (base:=w.heap.size) pV nH pW rfl ((mg.out.keep (bD (bR w4))).alloc _) rfl (l2:=[nd.id]) (Sl.lit (n:=1) (aj.made rfl _ _) rfl (dW (by omega))) (by simp only [List.length_cons,List.length_nil];omega) (by simp only [List.length_cons,List.length_nil];omega) (by simp;omega) ?_;intro v5 w5 gy hg5 oz;obtain ⟨A5,c5,hv5,-⟩:=Own.mY gy;rw [eu.out] at hv5;subst hv5;have hown5:=Own.grown ((kP.out.own.keep (bD (bR w4))).alloc _) hg5 (fun g hg=>Own.apart kP.out.own mg.out (by decide) g hg);obtain ⟨g',hg',-,Ur,tC,zQ⟩:=Own.FN hown5 (by omega);injection hg' with hg';injection hg' with hg' _ _;subst hg';obtain ⟨-,-,-,f2⟩:=zQ bb hbl;have hf2:=tC (bb*4+3);have vY:=Lib.hid (jP.aae (by decide) (kP.out.keep (bA (bD (bR w4)) _)) hbl (vI:=⟨A5,N.length+1,c5⟩) (c:=nd.id) (by rw [uM.out];exact gy) (by rw [DT.out];exact hg5) (by rw [DT.out];exact oz));have bK:=Lib.hid (aj.far (p:=⟨g,bb*4+3,none⟩) (aj.grown ((dn.out.drew).alloc _) hg5 (fun e=>Own.dM mg.out dn.out (by decide) e.symm)) (fun e=>Own.dM kP.out.own dn.out (by decide) (by rw [e];rfl)) (.slice A5 (N.length+1) c5));have dK:=Lib.hid (bS (p:=⟨g,bb*4+3,none⟩) (bG (bA (bD HB4.out) _) hg5 (fun g hg=>(mg.out.lt g hg).1)) hg0 (.slice A5 (N.length+1) c5));have hS:gW (w.heap.size) w4 w5:=Below.grown (show Below w.heap.size w4 _ from aA.out) hg5 (Nat.le_trans EZ (show Below w.heap.size w4 _ from aA.out).size) (fun g hg=>(mg.out.lt g hg).1);clear gy hg5 oz hown5 zQ tC e2;clear aA;refine hK.out _ _ hS (fun _=>?_);clear hK K
         try simp only [pu]
         iterate 2
          apply lK;exact ak;exact rfl;exact hS;exact rfl
          · intro _ hqc;go_simp;try rfl
          try simp only [pu]
         refine aT (i:=13) (aG ak rfl) (fun K hK=>?_);have aA:=Lib.hid hS;clear hS;refine aO (aV rfl) ?_;go_simp;refine hK.out _ _ (by unfold gW;have h:Below _ _ _:=aA.out;repeat (first | with_reducible assumption | with_reducible exact Below.refl _ _ | with_reducible refine xu ?_ (by first | omega | (simp;omega)) _ | with_reducible refine Below.drew ?_ | with_reducible refine oM (by omega) ?_ _ | exact h)) ?_;intro hS;clear hK K aA
         try simp only [pu]
         refine bM ?_;refine aC.down _ _ ?_;have hB:Below (w.heap.size) w4 _:=hS;clear hS aC ak;go_wp2_with fail;go_roundw
         case rel => exact ⟨k+1,_,by omega,by go_num,by rw [List.length_set];exact hl4,vY.out,by rw [kL.out];exact HD.out.lone pG.out hbl nd ⟨A5,N.length+1,c5⟩ HDe.out Px.out,HT.out.set hbl rfl rfl,bK.out,dK.out⟩
         case measure => simp [intOf];omega
        ·have aA:=Lib.hid hS;clear hS;refine aO (aV rfl) ?_;go_simp;refine hK.out _ _ aA.out (fun hS=>?_);clear hK K aA
         try simp only [pu]
         refine Ae (i:=6) (j:=9) (aG ak rfl) (aG ak rfl) (fun K hK=>?_) (fun K hK=>?_)
         ·have aA:=Lib.hid hS;clear hS;refine aO (aV rfl) ?_;go_simp;refine hK.out _ _ aA.out (fun hS=>?_);clear hK K aA
          try simp only [pu]
          refine aT (i:=9) (aG ak rfl) (fun K hK=>?_);have aA:=Lib.hid hS;clear hS;refine aO (aV rfl) ?_;go_simp;refine hK.out _ _ (oM (by omega) aA.out _) (fun hS=>?_);clear hK K aA
          try simp only [pu]
          refine aT (i:=10) (aG ak rfl) (fun K hK=>?_);have aA:=Lib.hid hS;clear hS;refine aO (aV rfl) ?_;refine wI (.tmp 101) (.tmp 104) _ rfl (base:=w.heap.size) pV nH pW rfl ((mg.out.keep (bD (bR w4))).alloc _) rfl (l2:=[nd.id]) (Sl.lit (n:=1) (aj.made rfl _ _) rfl (dW (by omega))) (by simp only [List.length_cons,List.length_nil];omega) (by simp only [List.length_cons,List.length_nil];omega) (by simp;omega) ?_;intro v5 w5 gy hg5 oz;obtain ⟨A5,c5,hv5,-⟩:=Own.mY gy;rw [eu.out] at hv5;subst hv5;have hown5:=Own.grown ((kP.out.own.keep (bD (bR w4))).alloc _) hg5 (fun g hg=>Own.apart kP.out.own mg.out (by decide) g hg);obtain ⟨g',hg',-,Ur,tC,zQ⟩:=Own.FN hown5 (by omega);injection hg' with hg';injection hg' with hg' _ _;subst hg';obtain ⟨-,-,-,f2⟩:=zQ bb hbl;have hf2:=tC (bb*4+3);have vY:=Lib.hid (jP.aae (by decide) (kP.out.keep (bA (bD (bR w4)) _)) hbl (vI:=⟨A5,N.length+1,c5⟩) (c:=nd.id) (by rw [uM.out];exact gy) (by rw [DT.out];exact hg5) (by rw [DT.out];exact oz));have bK:=Lib.hid (aj.far (p:=⟨g,bb*4+3,none⟩) (aj.grown ((dn.out.drew).alloc _) hg5 (fun e=>Own.dM mg.out dn.out (by decide) e.symm)) (fun e=>Own.dM kP.out.own dn.out (by decide) (by rw [e];rfl)) (.slice A5 (N.length+1) c5));have dK:=Lib.hid (bS (p:=⟨g,bb*4+3,none⟩) (bG (bA (bD HB4.out) _) hg5 (fun g hg=>(mg.out.lt g hg).1)) hg0 (.slice A5 (N.length+1) c5));have hS:gW (w.heap.size) w4 w5:=Below.grown (show Below w.heap.size w4 _ from aA.out) hg5 (Nat.le_trans EZ (show Below w.heap.size w4 _ from aA.out).size) (fun g hg=>(mg.out.lt g hg).1);clear gy hg5 oz hown5 zQ tC e2;clear aA;refine hK.out _ _ hS (fun _=>?_);clear hK K
          try simp only [pu]
          iterate 2
           apply lK;exact ak;exact rfl;exact hS;exact rfl
           · intro _ hqc;go_simp;try rfl
           try simp only [pu]
          refine aT (i:=13) (aG ak rfl) (fun K hK=>?_);have aA:=Lib.hid hS;clear hS;refine aO (aV rfl) ?_;go_simp;refine hK.out _ _ (by unfold gW;have h:Below _ _ _:=aA.out;repeat (first | with_reducible assumption | with_reducible exact Below.refl _ _ | with_reducible refine xu ?_ (by first | omega | (simp;omega)) _ | with_reducible refine Below.drew ?_ | with_reducible refine oM (by omega) ?_ _ | exact h)) ?_;intro hS;clear hK K aA
          try simp only [pu]
          refine bM ?_;refine aC.down _ _ ?_;have hB:Below (w.heap.size) w4 _:=hS;clear hS aC ak;go_wp2_with fail;go_roundw
          case rel => exact ⟨k+1,_,by omega,by go_num,by rw [List.length_set];exact hl4,vY.out,by rw [kL.out];exact HD.out.lone pG.out hbl nd ⟨A5,N.length+1,c5⟩ HDe.out Px.out,HT.out.set hbl rfl rfl,bK.out,dK.out⟩
          case measure => simp [intOf];omega
         ·have aA:=Lib.hid hS;clear hS;refine aO (aV rfl) ?_;go_simp;refine hK.out _ _ (oM (by omega) aA.out _) (fun hS=>?_);clear hK K aA
          try simp only [pu]
          refine aT (i:=6) (aG ak rfl) (fun K hK=>?_);have aA:=Lib.hid hS;clear hS;refine aO (aV rfl) ?_;go_simp;refine hK.out _ _ aA.out (fun hS=>?_);clear hK K aA
          try simp only [pu]
          refine aT (i:=10) (aG ak rfl) (fun K hK=>?_);have aA:=Lib.hid hS;clear hS;refine aO (aV rfl) ?_;refine wI (.tmp 101) (.tmp 104) _ rfl (base:=w.heap.size) pV nH pW rfl ((mg.out.keep (bD (bR w4))).alloc _) rfl (l2:=[nd.id]) (Sl.lit (n:=1) (aj.made rfl _ _) rfl (dW (by omega))) (by simp only [List.length_cons,List.length_nil];omega) (by simp only [List.length_cons,List.length_nil];omega) (by simp;omega) ?_;intro v5 w5 gy hg5 oz;obtain ⟨A5,c5,hv5,-⟩:=Own.mY gy;rw [eu.out] at hv5;subst hv5;have hown5:=Own.grown ((kP.out.own.keep (bD (bR w4))).alloc _) hg5 (fun g hg=>Own.apart kP.out.own mg.out (by decide) g hg);obtain ⟨g',hg',-,Ur,tC,zQ⟩:=Own.FN hown5 (by omega);injection hg' with hg';injection hg' with hg' _ _;subst hg';obtain ⟨-,-,-,f2⟩:=zQ bb hbl;have hf2:=tC (bb*4+3);have vY:=Lib.hid (jP.aae (by decide) (kP.out.keep (bA (bD (bR w4)) _)) hbl (vI:=⟨A5,N.length+1,c5⟩) (c:=nd.id) (by rw [uM.out];exact gy) (by rw [DT.out];exact hg5) (by rw [DT.out];exact oz));have bK:=Lib.hid (aj.far (p:=⟨g,bb*4+3,none⟩) (aj.grown ((dn.out.drew).alloc _) hg5 (fun e=>Own.dM mg.out dn.out (by decide) e.symm)) (fun e=>Own.dM kP.out.own dn.out (by decide) (by rw [e];rfl)) (.slice A5 (N.length+1) c5));have dK:=Lib.hid (bS (p:=⟨g,bb*4+3,none⟩) (bG (bA (bD HB4.out) _) hg5 (fun g hg=>(mg.out.lt g hg).1)) hg0 (.slice A5 (N.length+1) c5));have hS:gW (w.heap.size) w4 w5:=Below.grown (show Below w.heap.size w4 _ from aA.out) hg5 (Nat.le_trans EZ (show Below w.heap.size w4 _ from aA.out).size) (fun g hg=>(mg.out.lt g hg).1);clear gy hg5 oz hown5 zQ tC e2;clear aA;refine hK.out _ _ hS (fun _=>?_);clear hK K
          try simp only [pu]
          iterate 2
           apply lK;exact ak;exact rfl;exact hS;exact rfl
           · intro _ hqc;go_simp;try rfl
           try simp only [pu]
          refine aT (i:=13) (aG ak rfl) (fun K hK=>?_);have aA:=Lib.hid hS;clear hS;refine aO (aV rfl) ?_;go_simp;refine hK.out _ _ (by unfold gW;have h:Below _ _ _:=aA.out;repeat (first | with_reducible assumption | with_reducible exact Below.refl _ _ | with_reducible refine xu ?_ (by first | omega | (simp;omega)) _ | with_reducible refine Below.drew ?_ | with_reducible refine oM (by omega) ?_ _ | exact h)) ?_;intro hS;clear hK K aA
          try simp only [pu]
          refine bM ?_;refine aC.down _ _ ?_;have hB:Below (w.heap.size) w4 _:=hS;clear hS aC ak;go_wp2_with fail;go_roundw
          case rel => exact ⟨k+1,_,by omega,by go_num,by rw [List.length_set];exact hl4,vY.out,by rw [kL.out];exact HD.out.lone pG.out hbl nd ⟨A5,N.length+1,c5⟩ HDe.out Px.out,HT.out.set hbl rfl rfl,bK.out,dK.out⟩
          case measure => simp [intOf];omega
       ·have h1:(dg == 0)=false:=by simpa using h0
        have HPq:=Lib.hid (Us.out h0);clear h0 Ut Us;go_wp2_with fail;go_roundw
        case rel => exact ⟨k+1,L3,by omega,by go_num,hl4,ou.out,by rw [kL.out];exact HPq.out,HT.out,iE.out,HB3.out⟩
        case measure => simp [intOf];omega
      ·have hkk:k=p.nodes.length:=by omega
       subst hkk;have hd:=HD.out;rw [List.take_length] at hd;have O8:=Lib.hid hd;clear hd X1;go_wp2_with fail;go_ret;exact ⟨A,c,L3,by rw [hl4];rfl,Hb.out,by rw [hl4];exact HA.out,O8.out,HT.out⟩
end Go.Proofs.YtialfdomhoojiaaGreat
