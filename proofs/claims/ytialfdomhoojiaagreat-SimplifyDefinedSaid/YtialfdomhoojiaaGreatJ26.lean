import Derived.Test.YtialfdomhoojiaaGreatJ25
set_option linter.unusedSimpArgs false
set_option linter.unusedVariables false
set_option maxRecDepth 100000
set_option maxHeartbeats 8000000
namespace Go.Proofs.YtialfdomhoojiaaGreat
open Go.RowKit
def aqZ (w:World) (p:Pl) (e:Ending) (w':World):Prop :=
 ∃ A c L,e=.returned (.slice A L.length c)/\Below w.heap.size w w'/\jm 82 w w' w.heap.size (.slice A L.length c) L/\jP p L (iE p) (rO p) p.nodes/\xH p L
def ad0:AD:=⟨0,[],sv0,[],sv0,[],sv0⟩
def MC (p:Pl) (k:Nat):List (List Int):=((cO p).take k).filter (fun X=>decide (0<iD p X))
def JO (p:Pl) (k:Nat):List (List Int):=((cO p).take k).filter (fun X=>!decide (0<iD p X))
theorem ahX {p:Pl} {k:Nat} (hk:k<(cO p).length):MC p (k+1)=MC p k++(if 0<iD p (cO p)[k] then [(cO p)[k]] else []):=by
 unfold MC;rw [avH hk,List.filter_append,List.filter_cons];simp only [avQ,List.filter_nil]
theorem ahY {p:Pl} {k:Nat} (hk:k<(cO p).length):JO p (k+1)=JO p k++(if 0<iD p (cO p)[k] then [] else [(cO p)[k]]):=by
 unfold JO;rw [avH hk,List.filter_append,List.filter_cons];by_cases h:0<iD p (cO p)[k]<;>simp [h]
theorem ahZ (p:Pl):MC p (cO p).length=iE p:=by unfold MC iE;rw [List.take_length]
theorem ah0 (p:Pl):JO p (cO p).length=rO p:=by unfold JO rO;rw [List.take_length]
theorem OU {CL:List (List Int×SV)} {C:List (List Int)} (h:CL.map (·.1)=C) {k:Nat} (hk:k<CL.length) (hk2:k<C.length):C[k]=CL[k].1:=by
 subst h;rw [av4]
theorem aq0 {CL:List (List Int×SV)} {C:List (List Int)} (h:CL.map (·.1)=C) {k:Nat} (hk:k<CL.length):C.take (k+1)=C.take k++[CL[k].1]:=by
 subst h;rw [avH (by simpa using hk),av4]
theorem aq1 (v vc:Value) (p:Pl) (CL:List (List Int×SV)) (gm:Nat) (f:Int->SV) (w:World) (h:bQ w v p) (hv:Valid p) (hc:OO w vc CL) (hcl:CL.map (·.1)=cO p) (hpm:Gg w gm p f) :
  Calls Tryz.prog 58 #[v,vc,.map (some gm)] w (aqZ w p):=by
 have xk:=avE (fun u l (hl:l∈cO p) W (hu:Ints W u l) (hW:Below w.heap.size w W)=>show Calls Tryz.prog 120 #[v,u] W fun e w'=>e=.returned (.int .i64 (iD p l))/\Below W.heap.size W w' from by
  have t:=amv v u p l W (h.mono hW) hu hv (fun d hd=>by have:=hv.tZ ((hv.lV hl).2 d hd);exact qX Pe Pe);rw [hv.Xb hl] at t;exact t)
 have I9:=avE (fun id W (hW:Below w.heap.size w W)=>ajP v p id W (h.mono hW) (by have:=hv.lim;unfold nC at this;simp only [Bool.or_eq_false_iff,avX] at this;omega));have acd:=fun W (hW:Below w.heap.size w W)=>ao6 W gm p f (hpm.keep hW) hv;unfold aK at acd;have HFi:=avE acd;clear acd;have wQ:=avE hpm;have HV:=avE hv;have hnl:=hv.VO;have hcn:=hv.GI;have hll:CL.length=(cO p).length:=by rw [<- hcl,avM]
 have nU:=avE hcl;have iM:=avE hll;have yJ:=avE hv.ahM;obtain ⟨⟨Ac,cc,rfl,hc1,hc2,uf⟩,hI⟩:=hc;obtain ⟨_,_,_,al,rfl,hpa,⟨An,cn,rfl,hn1,hn2,hR⟩,⟨⟨Aa,ca,rfl,-⟩,-⟩,⟨Af,cf,rfl,-⟩⟩:=h;unfold maxLen at hc2 hn2;have zK:=avE uf;have HI:=avE hI;have HRn:=avE hR;have auT:CL.length<=512:=by omega
 generalize p.faces.length=nf at *;generalize al.length=na at *;clear hpa uf hI hR hv hpm hcl hll hcn;go_enter Tryz.func58,Tryz.ntmps58;go_upto_region 2 with fail;obtain ⟨W1,hW⟩:∃ W:World,W=(w.alloc (.cells #[.slice An p.nodes.length cn,.slice Aa na ca,.slice Af nf cf] 26)).alloc (.cells #[.int .i64 0,.slice none 0 0,.slice none 0 0,.slice none 0 0] 82):=⟨_,rfl⟩;have X1:ah W1 w.heap.size 26 #[.slice An p.nodes.length cn,.slice Aa na ca,.slice Af nf cf]:=by rw [hW];exact (ah.made rfl _ _).alloc _
 have ku:=avE (show Own W1 w.heap.size 82 4 wZ (.slice (some ⟨w.heap.size+1,0,none⟩) 1 1) [ad0] by rw [hW];exact Own.lit _ _ _ _ _ _ _ _ _ ars rfl ars (dP Pe) rfl rfl);have HB1:=avE (show Below w.heap.size w W1 by rw [hW];exact bA (bA (bR w) _) _);rw [<- hW];clear hW;have HA1:=avE (show jm 82 w W1 w.heap.size (.slice (some ⟨w.heap.size+1,0,none⟩) 1 1) [ad0] from ⟨ku.out,(fun x hx=>by rw [avY] at hx;subst hx;exact Sl.nil w),(fun x hx=>by rw [avY] at hx;subst hx;exact Own.nil _ _ _ _ _),(fun x hx=>by rw [avY] at hx;subst hx;intro c hc;cases hc),(fun x hx=>by rw [avY] at hx;subst hx;exact Own.nil _ _ _ _ _),List.pairwise_singleton _ _,List.pairwise_singleton _ _⟩);have gq:=avE X1;clear X1 ku;go_upto_block 0 with fail;go_wp2_with fail;go_loopw [7,8,23] (fun s r i wr=>∃ (k:Nat) (L:List AD) (R:List (List Int×SV)),k<=CL.length/\i=.int .i64 k/\(∃ A c,s=.slice A L.length c)/\(∃ A c,r=.slice A R.length c)/\jm 82 w wr w.heap.size s L/\Own wr w.heap.size 24 1 lJ r R/\jP p L (MC p k) [] []/\xH p L/\R.map (·.1)=JO p k/\(∀ x∈R,Ints w (bg x.2) x.1)/\(∀ x∈L,x.iv=sv0)/\L.length<=k+1/\R.length<=k/\ah wr w.heap.size 26 #[.slice An p.nodes.length cn,.slice Aa na ca,.slice Af nf cf]/\Below w.heap.size w wr) (fun _ _ i _=>CL.length-(intOf i).toNat)
 case atStart => exact ⟨0,[ad0],[],avK _,rfl,⟨_,_,rfl⟩,⟨_,_,rfl⟩,HA1.out,Own.nil _ _ _ _ _,jP.start p ad0 rfl rfl rfl,xH.one p ad0,rfl,(fun x hx=>by cases hx),(fun x hx=>by rw [avY] at hx;subst hx;rfl),by simp,by simp,gq.out,HB1.out⟩
 case round =>
  obtain ⟨k,L,R,hk,rfl,⟨A,c,rfl⟩,⟨A',c',rfl⟩,had,hor,hdv,htw,hrm,SS,hiv,hl1,hl2,X1,hb⟩:=hrel;obtain ⟨wo,rfl⟩:∃ wo:World,wo=wr:=⟨_,rfl⟩;have HA:=avE had;have HO:=avE hor;have HD:=avE hdv;have HT:=avE htw;have JQ:=avE hrm;have GN:=avE SS;have SX:=avE hiv;have HX:=avE X1;have Hb:=avE hb;clear had hor hdv htw hrm SS hiv hb gq HA1 HB1;by_cases hlt:k<CL.length
  ·have hlc:k<(cO p).length:=by have:=iM.out;omega
   obtain ⟨b,o,rfl,hlb,c0⟩:=(zK.out.mono Hb.out).cy hlt;have hin:=HI.out CL[k] (avF hlt);have hmem:(cO p)[k]∈cO p:=avF hlc;have hos:=ahX hlc;have hrs:=ahY hlc;rw [OU nU.out hlt hlc] at hmem hos hrs;generalize CL[k]=x at *;obtain ⟨l,xs⟩:=x;obtain ⟨xa,xn,xc⟩:=xs;simp only at hin c0 hmem hos hrs;have yC:=avE hin;have jf:=avE (fun W (hW:Below w.heap.size w W)=>xk.out _ l hmem W (hin.mono hW) hW);obtain ⟨t,ht⟩:∃ t,iD p l=t:=⟨_,rfl⟩;rw [ht] at jf hos hrs;have HTe:=avE ht;have Gi:=avE hos;have HRs:=avE hrs;clear hin hmem hlc ht hos hrs;obtain ⟨aS,aT,aU,aW,-,-,-⟩:=X1.aF;go_upto_region 7 with fail;go_wp2_with fail;refine (jf.out _ Hb.out).mono ?_;rintro e w2 ⟨rfl,hb2⟩;have HB2:=avE (bT Hb.out hb2);have HA2:=avE (HA.out.keep hb2);have iU:=avE (HO.out.keep hb2);have dh:=avE (HX.out.keep hb2);have hz2:=HB2.out.size;clear hb2 X1 aS aT aU aW c0 hlb jf HA HO HX Hb;by_cases h0:0<t
   ·have hos:=Gi.out;have hrs:=HRs.out;rw [if_pos h0] at hos hrs;rw [List.append_nil] at hrs;have JR:=avE hos;have GR:=avE hrs;clear hos hrs;have n1:=Own.iO HA2.out.own dh.out arC;go_upto_region 10 with
     (at_builtin
      refine iZ _ rfl (.tmp 32) (.tmp 36) _ rfl (base:=w.heap.size) aoS RD agW rfl (Own.alloc HA2.out.own _) rfl (l2:=[(⟨t,l,⟨xa,xn,xc⟩,[],sv0,[],sv0⟩:AD)]) (Sl.lit (n:=1) (ah.made rfl _ _) rfl (dP Pe)) afr afr arV ?_;intro v3 w3 ho3 hg3 Dq;obtain ⟨A3,c3,hv3,-⟩:=Own.lI ho3;have hsh:(L++[(⟨t,l,⟨xa,xn,xc⟩,[],sv0,[],sv0⟩:AD)]).length=L.length+1:=by simp
      rw [hsh] at hv3;subst hv3;have l9:=avE (jm.more arC (HA2.out.keep (bA (bR w2) _)) ho3 hg3 yC.out rfl rfl rfl rfl);have gY:=avE (Own.grown (Own.alloc iU.out _) hg3 (fun g hg=>Own.apart iU.out HA2.out.own arC g hg));have dW:=avE (ah.grown (dh.out.alloc _) hg3 (fun e=>n1 e.symm));have HB3:=avE (bG (bA HB2.out _) hg3 (fun g hg=>(HA2.out.own.lt g hg).1));clear ho3 hg3 Dq
      )
    clear n1;go_wp2;go_roundw
    case rel => exact ⟨k+1,_,R,by omega,by go_num,⟨A3,c3,by rw [hsh]⟩,⟨_,_,rfl⟩,l9.out,gY.out,by rw [JR.out];exact HD.out.more rfl rfl _ rfl rfl,HT.out.more HTe.out.symm,by rw [GR.out];exact JQ.out,GN.out,(fun x hx=>by
      rcases av1.1 hx with hx | hx
      · exact SX.out x hx
      · rw [avY] at hx;subst hx;rfl),by rw [hsh];omega,by omega,dW.out,HB3.out⟩
    case measure => simp [intOf];omega
   ·have hos:=Gi.out;have hrs:=HRs.out;rw [if_neg h0] at hos hrs;rw [List.append_nil] at hos;have JR:=avE hos;have GR:=avE hrs;clear hos hrs;have n1:=Own.iO iU.out dh.out arC;go_upto_region 10 with
     (at_builtin
      refine iZ _ rfl (.tmp 38) (.tmp 40) _ rfl (base:=w.heap.size) Gm Ew Gl rfl (Own.alloc iU.out _) rfl (l2:=[((l,⟨xa,xn,xc⟩):List Int×SV)]) (Sl.lit (n:=1) (ah.made rfl _ _) rfl (dP Pe)) afr afr arV ?_;intro v3 w3 ho3 hg3 Dq;obtain ⟨A3,c3,hv3,-⟩:=Own.lI ho3;have hsh:(R++[((l,⟨xa,xn,xc⟩):List Int×SV)]).length=R.length+1:=by simp
      rw [hsh] at hv3;subst hv3;have gY:=avE ho3;have l9:=avE (jm.aqJ arC (HA2.out.keep (bA (bR w2) _)) hg3 (Own.alloc iU.out _) SX.out);have dW:=avE (ah.grown (dh.out.alloc _) hg3 (fun e=>n1 e.symm));have HB3:=avE (bG (bA HB2.out _) hg3 (fun g hg=>(iU.out.lt g hg).1));clear ho3 hg3 Dq
      )
    clear n1;go_wp2;go_roundw
    case rel => exact ⟨k+1,L,_,by omega,by go_num,⟨_,_,rfl⟩,⟨A3,c3,by rw [hsh]⟩,l9.out,gY.out,by rw [JR.out];exact HD.out,HT.out,by rw [GR.out,List.map_append,JQ.out];rfl,(fun x hx=>by
      rcases av1.1 hx with hx | hx
      · exact GN.out x hx
      · rw [avY] at hx;subst hx;exact yC.out),SX.out,by omega,by rw [hsh];omega,dW.out,HB3.out⟩
    case measure => simp [intOf];omega
  ·have hkk:k=CL.length:=by omega
   subst hkk;have hd0:=HD.out;have hd:=HD.out;have hrm:=JQ.out;rw [iM.out,ahZ] at hd;rw [iM.out,ah0] at hrm;have hsep:∀ x∈L,jw (bg x.iv) (.slice A' R.length c'):=fun x hx=>by rw [SX.out x hx];intro g hg;cases hg
   have HD3:=avE hd;have ace:=avE hrm;have DK:=avE hsep;have hl0:0<L.length:=by have:=hd0.len;omega
   clear HD JQ SX hd hd0 hrm hsep X1 nU HI zK xk;go_upto_block 2 with fail;go_wp2_with fail;go_loopw [45] (fun i wr=>∃ (j:Nat) (L2:List AD),j<=R.length/\i=.int .i64 j/\L2.length=L.length/\jm 82 w wr w.heap.size (.slice A L.length c) L2/\Own wr w.heap.size 24 1 lJ (.slice A' R.length c') R/\jP p L2 (iE p) ((rO p).take j) []/\xH p L2/\(∀ x∈L2,jw (bg x.iv) (.slice A' R.length c'))/\ah wr w.heap.size 26 #[.slice An p.nodes.length cn,.slice Aa na ca,.slice Af nf cf]/\Below w.heap.size w wr) (fun i _=>R.length-(intOf i).toNat)
   case atStart => exact ⟨0,L,avK _,rfl,rfl,HA.out,HO.out,by rw [List.take_zero];exact HD3.out,HT.out,DK.out,HX.out,Hb.out⟩
   case round =>
    clear HA HO HD3 HT DK HX Hb;obtain ⟨j,L2,hj,rfl,hl3,had,hor,hdv,htw,hsp,X1,hb⟩:=hrel;obtain ⟨wo,rfl⟩:∃ wo:World,wo=wr:=⟨_,rfl⟩;have HA:=avE had;have HO:=avE hor;have HD:=avE hdv;have HT:=avE htw;have HS:=avE hsp;have HX:=avE X1;have Hb:=avE hb;clear had hor hdv htw hsp hb;by_cases hlj:j<R.length
    ·have hrl:=HO.out.lt;obtain ⟨b,o,hA',hlb,c0⟩:=(HO.out.row_of).cy hlj;subst hA';have htk:=aq0 ace.out hlj;have hmem:R[j].1∈rO p:=by rw [<- ace.out];exact awd (avF hlj)
     have hin:=GN.out R[j] (avF hlj);generalize R[j]=x at *;obtain ⟨l,xa,xn,xc⟩:=x;unfold bg at hin;simp only at hin c0 htk hmem;have hcm:=(aaY.1 hmem).1;have hne:=HV.out.GH hcm;have hkl:0<l.length:=List.length_pos_iff.2 hne;have hhd:l.headD 0=l[0]:=by
      cases l with
      | nil=>exact absurd rfl hne
      | cons d l'=>rfl
     have hdd:l[0]∈bf p:=(HV.out.lV hcm).2 _ (avF hkl);obtain ⟨a,ha,aq2,hpt⟩:=HV.out.KU hdd;have hcp:KX p l=(au p a).getD 0 aA:=by unfold KX;rw [hhd,hpt]
     have hid:=HV.out.kC ha;have hlen:2<=(au p a).length:=by have:=ig p a;omega
     have Ee:=HV.out.FT ha;have hpl:(au p a).length<=66:=by have:=ig p a;omega
     have nv:=HV.out.dS ha (k:=0) Pe;have Xt:0<(au p a).length:=by omega
     have egd:(au p a).getD 0 aA=(au p a)[0]:=by simp only [avT,avG Xt,avU]
     rw [egd] at hcp nv;obtain ⟨n,hmp⟩:=(wQ.out.keep Hb.out).mp;have hlk:=(hmp.keep (bD (bR wo))).look a.id (qX Pe Pe);have Ou:=wQ.out.rd a ha;have k1:IntKind.i64.wrap (-l[0])=-l[0]:=avS _ Pe;have km:max l[0] (-l[0])=a.id:=by omega
     have yC:=avE hin;obtain ⟨Al,cl,hel,-,-,hRl⟩:=hin.mono Hb.out;injection hel with y1 y2 y3;subst y1 y2 y3;obtain ⟨bl,ol,MF,MG,d0⟩:=(hRl).int hkl;subst MF;simp only [Nat.add_zero] at d0;have kz:(0:Int)<l.length:=by omega
     have kn:¬ l=[]:=hne;generalize f a.id=y at *;obtain ⟨Ap,np,cp⟩:=y;unfold bg at hlk Ou;have Ju:=avE Ou;obtain ⟨Ap',cp',he,hp1,hp2,-⟩:=Ou;injection he with y1 y2 y3;subst y1 y2 y3;unfold maxLen at hp2;have jf:=avE htk;have Mc:=avE hcp;have GL:=avE nv;have HKn:=avE hkl;clear hmp hdd htk hmem hpt aq2 ha Ee hcm hhd hne hcp nv egd;generalize a.id=ai at *;generalize au p a=P at *;generalize l[0]=dd at *;clear hid;go_upto_region 14 with fail;refine dH (wo) (.run 9 0 0 (.call 9 1023 (.take 10 2047 (.done)))) fun bZ QR aB aH hS=>?_
     iterate 9 refine aC ?_
     refine bK ?_;clear hS;intro K hK ak;go_simp;refine hK.out _ _ ak.out (fun hS=>?_);clear hK K ak
     try simp only [pu]
     refine aC ?_;refine dB ?_;clear hS aH aB;intro hB;obtain ⟨W3,hW3⟩:∃ W:World,W=wo.drew:=⟨_,rfl⟩;rw [<- hW3] at hB ⊢;have HB3:=avE (bT Hb.out hB);have l9:=avE (HA.out.keep hB);have gY:=avE (HO.out.keep hB);have dW:=avE (HX.out.keep hB);clear hW3 hB HA HO HX Hb c0 d0 hlk k1 km hlb MG X1;obtain ⟨Ap',cp',he,-,-,xg⟩:=Ju.out.mono HB3.out;injection he with y1 y2 y3;subst y1 y3;clear y2;obtain ⟨bp,op,yA,hlp,e10,e11⟩:=(xg).pt Xt;subst yA;simp only [Nat.zero_mul,Nat.add_zero] at e10 e11;clear xg;have kz2:(0:Int)<P.length:=by omega
     have kn2:¬ P=[]:=fun e=>by rw [e] at Xt;simp at Xt
     have HF:=avE (HFi.out W3 HB3.out (.slice A L.length c) L2 (l9.out.read HB3.out) (fun x hx d hd=>by
      rcases HD.out.abY hx with e | e
      · rw [e] at hd;cases hd
      · exact (HV.out.lV (Dv.1 e).1).2 d hd) Pe P[0] GL.out)
     go_wp2_with fail;refine HF.out.mono ?_;rintro e w4 ⟨⟨bb,rfl,hbx⟩,hb4⟩;obtain ⟨hbl,hhm⟩:=HD.out.home rfl HT.out hbx;rw [<- Mc.out] at hhm;have MH:=avE hhm;have HB4:=avE (bT HB3.out hb4);have lN:=avE (l9.out.keep hb4);have kP:=avE (gY.out.keep hb4);have dI:=avE (dW.out.keep hb4);have auU:=hb4.size;clear hb4 HF HB3 l9 gY dW e10 e11 kz2 kn2 hbx hhm Ju GL Mc hlp kz kn;obtain ⟨g,hA2,hg0,hgl,-,hce⟩:=Own.uD lN.out.own Pe;subst hA2;obtain ⟨-,-,e2,-⟩:=hce bb hbl;have kV:=lN.out.inn _ (avF hbl);have hse:=HS.out _ (avF hbl);have hNl:L2[bb].inn.length<=512:=by
      have:=congrArg List.length (HD.out.inn bb hbl)
      rw [avM] at this;rw [this];exact avZ (List.length_filter_le _ _) avx
     obtain ⟨iv,hiv⟩:∃ iv,L2[bb].iv=iv:=⟨_,rfl⟩;obtain ⟨N,hN⟩:∃ N,L2[bb].inn=N:=⟨_,rfl⟩;rw [hiv,hN] at kV;rw [hiv] at e2 hse;rw [hN] at hNl;obtain ⟨ia,xq,ic⟩:=iv;unfold bg at kV e2 hse;have pY:=avE hiv;have su:=avE hN;have uq:=avE hse;have jg:=avE kV;clear hiv hN hce hse kV;have kb1:(bb:Int)<L.length:=by omega
     have kb2:0<=(bb:Int):=by omega
     have hsh:(N++[((l,⟨some ⟨bl,ol,none⟩,l.length,xc⟩):List Int×SV)]).length=N.length+1:=by simp
     have iL:=avE hsh;clear hsh;go_upto_region 17 with
      (at_builtin
       refine iZ _ rfl (.tmp 71) (.tmp 73) _ rfl (base:=w.heap.size) Gm Ew Gl rfl (Own.alloc jg.out _) rfl (l2:=[((l,⟨some ⟨bl,ol,none⟩,l.length,xc⟩):List Int×SV)]) (Sl.lit (n:=1) (ah.made rfl _ _) rfl (dP Pe)) afr afr (by have:=HB4.out.size;simp;omega) ?_;intro v5 w5 dG hg5 iG;obtain ⟨A5,c5,hv5,-⟩:=Own.lI dG;rw [iL.out] at hv5;subst hv5;have hown5:=Own.grown (Own.alloc lN.out.own _) hg5 (fun g hg=>Own.apart lN.out.own jg.out arC g hg);obtain ⟨g',hg',-,vC,jQ,jA⟩:=Own.uD hown5 Pe;injection hg' with hg';injection hg' with hg' _ _;subst hg';obtain ⟨-,-,f2,-⟩:=jA bb hbl;have hf2:=jQ (bb*4+2);have jY:=avE (jm.Xh arC (lN.out.keep (bA (bR w4) _)) hbl (rY:=⟨A5,N.length+1,c5⟩) (c:=(l,⟨some ⟨bl,ol,none⟩,l.length,xc⟩)) avm avk avn yC.out);have jd:=avE (Own.far (p:=⟨g,bb*4+2,none⟩) (Own.grown (Own.alloc kP.out _) hg5 (fun q hq e=>uq.out q e.symm hq)) (fun e=>Own.apart kP.out lN.out.own arC g e rfl) (.slice A5 (N.length+1) c5));have dF:=avE (ah.far (p:=⟨g,bb*4+2,none⟩) (ah.grown (dI.out.alloc _) hg5 (fun e=>Own.iO jg.out dI.out arC e.symm)) (fun e=>Own.iO lN.out.own dI.out arC (by rw [e];rfl)) (.slice A5 (N.length+1) c5));have bC:=avE (bS (p:=⟨g,bb*4+2,none⟩) (bG (bA HB4.out _) hg5 (fun g hg=>(jg.out.lt g hg).1)) hg0 (.slice A5 (N.length+1) c5));have wW:=avE (show jw (.slice A5 (N.length+1) c5) (.slice (some ⟨b,o,none⟩) R.length c') from fun q hq e=>by
        rcases iG with h | h
        · exact uq.out q (h.symm.trans hq) e
        ·have h1:=(kP.out.lt q e).2;rw [hq] at h;have:=avP h
         simp at this;omega)
       clear dG hg5 iG hown5 jA jQ e2
       )
     clear f2 hf2 lN kP dI HB4 jg uq hgl vC;go_wp2;go_roundw
     case rel => exact ⟨j+1,_,by omega,by go_num,by rw [av9];exact hl3,jY.out,jd.out,by rw [jf.out];exact HD.out.inner yJ.out hbl l ⟨some ⟨bl,ol,none⟩,l.length,xc⟩ ⟨A5,N.length+1,c5⟩ MH.out,HT.out.set hbl rfl rfl,(fun x hx=>by
       rcases xI hx with ⟨rfl,_⟩ | ⟨q,hq,_,rfl⟩
       · exact wW.out
       · exact HS.out _ (avF hq)),dF.out,bC.out⟩
     case measure => simp [intOf];omega
    ·have hjj:j=R.length:=by omega
     subst hjj;have hrl:R.length=(rO p).length:=by rw [<- ace.out,avM]
     have hd:=HD.out;rw [hrl,List.take_length] at hd;have HD6:=avE hd;clear HD HS HO hd hrl X1;have X1:=HX.out
     try clear aS
     try clear aT
     try clear aU
     try clear aW
     obtain ⟨aS,aT,aU,aW,-,-,-⟩:=X1.aF;go_upto_block 4 with fail;clear X1 aS aT aU aW;go_wp2_with fail;go_loopw [81] (fun i wr=>∃ (k:Nat) (L3:List AD),k<=p.nodes.length/\i=.int .i64 k/\L3.length=L.length/\jm 82 w wr w.heap.size (.slice A L.length c) L3/\jP p L3 (iE p) (rO p) (p.nodes.take k)/\xH p L3/\ah wr w.heap.size 26 #[.slice An p.nodes.length cn,.slice Aa na ca,.slice Af nf cf]/\Below w.heap.size w wr) (fun i _=>p.nodes.length-(intOf i).toNat)
     case atStart => exact ⟨0,L2,avK _,rfl,hl3,HA.out,by rw [List.take_zero];exact HD6.out,HT.out,HX.out,Hb.out⟩
     case round =>
      clear HA HD6 HT HX Hb;obtain ⟨k,L3,hk,rfl,hl4,had,hdv,htw,X1,hb⟩:=hrel;obtain ⟨wo,rfl⟩:∃ wo:World,wo=wr:=⟨_,rfl⟩;have HA:=avE had;have HD:=avE hdv;have HT:=avE htw;have HX:=avE X1;have Hb:=avE hb;clear had hdv htw hb;by_cases hlk:k<p.nodes.length
      ·obtain ⟨b,o,rfl,hlb,c0,c1,c2'⟩:=(HRn.out.mono Hb.out).nd hlk;have htk:p.nodes.take (k+1)=p.nodes.take k++[p.nodes[k]]:=avH hlk;have nv:=HV.out.Qo (avF hlk);generalize p.nodes[k]=nd at *;have jf:=avE htk;have GL:=avE nv;have ER:=avE (fun W (hW:Below w.heap.size w W)=>I9.out nd.id W hW);have Ce:=avE (fun h0=>HD.out.pass nd h0);clear htk nv;obtain ⟨dg,hdg⟩:∃ dg,sU p.aj nd.id=dg:=⟨_,rfl⟩;rw [hdg] at ER Ce;have JI:=avE hdg;clear hdg;go_upto_region 21 with fail;obtain ⟨W2,hW⟩:∃ W:World,W=wo.alloc (.cells #[.int .i64 nd.id,.int .i64 nd.pt.x,.int .i64 nd.pt.y] 45):=⟨_,rfl⟩;have hA:Below wo.heap.size wo W2:=by rw [hW];exact bA (bR wo) _
       have X5:ah W2 wo.heap.size 45 #[.int .i64 nd.id,.int .i64 nd.pt.x,.int .i64 nd.pt.y]:=by rw [hW];exact ah.made rfl _ _
       replace X1:=X1.keep hA;have HA2:=avE (HA.out.keep hA);have dh:=avE X1;have dF:=avE X5;have HB2:=avE (bT Hb.out hA);have hz2:=Hb.out.size;rw [<- hW];clear hW hA HA HX Hb c0 c1 c2' hlb;obtain ⟨g5,hg5⟩:∃ g5,wo.heap.size=g5:=⟨_,rfl⟩;rw [hg5] at dF X5 hz2 ⊢;clear hg5
       try clear aS
       try clear aT
       try clear aU
       try clear aW
       obtain ⟨aS,aT,aU,aW,-,-,-⟩:=X1.aF;obtain ⟨bI,bJ,bV,jk,-,-,-⟩:=X5.aF;go_wp2_with fail;refine (ER.out _ HB2.out).mono ?_;rintro e w3 ⟨rfl,hb3⟩;have HB3:=avE (bT HB2.out hb3);have l9:=avE (HA2.out.keep hb3);have dW:=avE (dh.out.keep hb3);have Xu:=dF.out.keep hb3;have GU:=avE Xu;clear hb3 X1 aS aT aU aW X5 bI bJ bV jk ER HA2 dh dF HB2;by_cases h0:dg=0
       ·subst h0;have X5:=Xu;clear Xu Ce
        try clear bI
        try clear bJ
        try clear bV
        try clear jk
        obtain ⟨bI,bJ,bV,jk,-,-,-⟩:=X5.aF;have HF:=avE (HFi.out w3 HB3.out (.slice A L.length c) L3 (l9.out.read HB3.out) (fun x hx d hd=>by
         rcases HD.out.abY hx with e | e
         · rw [e] at hd;cases hd
         · exact (HV.out.lV (Dv.1 e).1).2 d hd) Pe nd.pt GL.out)
        go_wp2_with fail;refine HF.out.mono ?_;rintro e w4 ⟨⟨bb,rfl,hbx⟩,hb4⟩;obtain ⟨hbl,hhm⟩:=HD.out.home rfl HT.out hbx;have MH:=avE hhm;have HB4:=avE (bT HB3.out hb4);have lN:=avE (l9.out.keep hb4);have dI:=avE (dW.out.keep hb4);have Xv:=avE (GU.out.keep hb4);have MB:=hb4.size;clear hb4 HF HB3 l9 dW GU X5 bI bJ bV jk hbx hhm;obtain ⟨g,hA2,hg0,hgl,-,hce⟩:=Own.uD lN.out.own Pe;subst hA2;obtain ⟨-,-,-,e2⟩:=hce bb hbl;have kV:=lN.out.fD _ (avF hbl);have hNl:L3[bb].fD.length<=256:=by
         rw [HD.out.fD bb hbl,avM];exact avZ (List.length_filter_le _ _) avx
        obtain ⟨iv,hiv⟩:∃ iv,L3[bb].av=iv:=⟨_,rfl⟩;obtain ⟨N,hN⟩:∃ N,L3[bb].fD=N:=⟨_,rfl⟩;rw [hiv,hN] at kV;rw [hiv] at e2;rw [hN] at hNl;obtain ⟨ia,xq,ic⟩:=iv;unfold bg at kV e2;have pY:=avE hiv;have su:=avE hN;have jg:=avE kV;clear hiv hN hce kV;have kb1:(bb:Int)<L.length:=by omega
        have kb2:0<=(bb:Int):=by omega
        have hsh:(N++[nd.id]).length=N.length+1:=by simp
        have iL:=avE hsh;clear hsh;have X5:=Xv.out
        try clear bI
        try clear bJ
        try clear bV
        try clear jk
        obtain ⟨bI,bJ,bV,jk,-,-,-⟩:=X5.aF;have zG:w.heap.size<=w4.heap.size:=HB4.out.size;go_upto_region 23 with fail;refine Ah (w.heap.size) (w4) (.run 6 0 0 (.take 7 191 (.two 6 255 (.call 8 511 (.call 9 1023 (.call 10 2047 (.take 11 4095 (.take 12 8191 (.call 13 16383 (.done))))))) 8 447 (.two 6 511 (.call 9 1023 (.call 10 2047 (.take 11 4095 (.take 12 8191 (.call 13 16383 (.done)))))) 9 959 (.call 6 1023 (.call 10 2047 (.take 11 4095 (.take 12 8191 (.call 13 16383 (.done)))))))))) fun bZ QR aB aH hS=>?_
        iterate 7 refine aC ?_
        refine yX (i:=6) (j:=8) (eP aB rfl) (eP aB rfl) (fun K hK=>?_) (fun K hK=>?_)
        ·have ak:=avE hS;clear hS;refine fK (fJ rfl) ?_;go_simp;refine hK.out _ _ ak.out (fun hS=>?_);clear hK K ak
         try simp only [pu]
         refine bK ?_;clear hS;intro K hK ak;go_simp;refine hK.out _ _ ak.out (fun hS=>?_);clear hK K ak
         try simp only [pu]
         refine bK ?_;clear hS;intro K hK ak;go_simp;refine hK.out _ _ (fE Pe ak.out _) (fun hS=>?_);clear hK K ak
         try simp only [pu]
         refine bK ?_;clear hS;intro K hK ak;refine kW (.tmp 101) (.tmp 104) _ rfl (base:=w.heap.size) jR jB jT rfl ((jg.out.keep (bD (bR w4))).alloc _) rfl (l2:=[nd.id]) (Sl.lit (n:=1) (ah.made rfl _ _) rfl (dP Pe)) afr afr arV ?_;intro v5 w5 dG hg5 iG;obtain ⟨A5,c5,hv5,-⟩:=Own.lI dG;rw [iL.out] at hv5;subst hv5;have hown5:=Own.grown ((lN.out.own.keep (bD (bR w4))).alloc _) hg5 (fun g hg=>Own.apart lN.out.own jg.out arC g hg);obtain ⟨g',hg',-,vC,jQ,jA⟩:=Own.uD hown5 Pe;injection hg' with hg';injection hg' with hg' _ _;subst hg';obtain ⟨-,-,-,f2⟩:=jA bb hbl;have hf2:=jQ (bb*4+3);have jY:=avE (jm.SN arC (lN.out.keep (bA (bD (bR w4)) _)) hbl (qP:=⟨A5,N.length+1,c5⟩) (c:=nd.id) avm avk avn);have dF:=avE (ah.far (p:=⟨g,bb*4+3,none⟩) (ah.grown ((dI.out.drew).alloc _) hg5 (fun e=>Own.iO jg.out dI.out arC e.symm)) (fun e=>Own.iO lN.out.own dI.out arC (by rw [e];rfl)) (.slice A5 (N.length+1) c5));have bC:=avE (bS (p:=⟨g,bb*4+3,none⟩) (bG (bA (bD HB4.out) _) hg5 (fun g hg=>(jg.out.lt g hg).1)) hg0 (.slice A5 (N.length+1) c5));have hS:fM (w.heap.size) w4 w5:=Below.grown (show Below w.heap.size w4 _ from ak.out) hg5 (avZ zG (show Below w.heap.size w4 _ from ak.out).size) (fun g hg=>(jg.out.lt g hg).1);clear dG hg5 iG hown5 jA jQ e2;clear ak;refine hK.out _ _ hS (fun _=>?_);clear hK K
         try simp only [pu]
         iterate 2 refine aC ?_
         refine bK ?_;clear hS;intro K hK ak;go_simp;refine hK.out _ _ (by unfold fM;have h:Below _ _ _:=ak.out;repeat (first | with_reducible assumption | with_reducible exact Below.refl _ _ | with_reducible refine jv ?_ arS _ | with_reducible refine Below.drew ?_ | with_reducible refine fE Pe ?_ _ | exact h)) ?_;intro hS;clear hK K ak
         try simp only [pu]
         refine o8 ?_;clear hS aH aB;intro hB;go_wp2;go_roundw
         case rel => exact ⟨k+1,_,by omega,by go_num,by rw [av9];exact hl4,jY.out,by rw [jf.out];exact HD.out.lone yJ.out hbl nd ⟨A5,N.length+1,c5⟩ JI.out MH.out,HT.out.set hbl rfl rfl,dF.out,bC.out⟩
         case measure => simp [intOf];omega
        ·have ak:=avE hS;clear hS;refine fK (fJ rfl) ?_;go_simp;refine hK.out _ _ ak.out (fun hS=>?_);clear hK K ak
         try simp only [pu]
         refine yX (i:=6) (j:=9) (eP aB rfl) (eP aB rfl) (fun K hK=>?_) (fun K hK=>?_)
         ·have ak:=avE hS;clear hS;refine fK (fJ rfl) ?_;go_simp;refine hK.out _ _ ak.out (fun hS=>?_);clear hK K ak
          try simp only [pu]
          refine bK ?_;clear hS;intro K hK ak;go_simp;refine hK.out _ _ (fE Pe ak.out _) (fun hS=>?_);clear hK K ak
          try simp only [pu]
          refine bK ?_;clear hS;intro K hK ak;refine kW (.tmp 101) (.tmp 104) _ rfl (base:=w.heap.size) jR jB jT rfl ((jg.out.keep (bD (bR w4))).alloc _) rfl (l2:=[nd.id]) (Sl.lit (n:=1) (ah.made rfl _ _) rfl (dP Pe)) afr afr arV ?_;intro v5 w5 dG hg5 iG;obtain ⟨A5,c5,hv5,-⟩:=Own.lI dG;rw [iL.out] at hv5;subst hv5;have hown5:=Own.grown ((lN.out.own.keep (bD (bR w4))).alloc _) hg5 (fun g hg=>Own.apart lN.out.own jg.out arC g hg);obtain ⟨g',hg',-,vC,jQ,jA⟩:=Own.uD hown5 Pe;injection hg' with hg';injection hg' with hg' _ _;subst hg';obtain ⟨-,-,-,f2⟩:=jA bb hbl;have hf2:=jQ (bb*4+3);have jY:=avE (jm.SN arC (lN.out.keep (bA (bD (bR w4)) _)) hbl (qP:=⟨A5,N.length+1,c5⟩) (c:=nd.id) avm avk avn);have dF:=avE (ah.far (p:=⟨g,bb*4+3,none⟩) (ah.grown ((dI.out.drew).alloc _) hg5 (fun e=>Own.iO jg.out dI.out arC e.symm)) (fun e=>Own.iO lN.out.own dI.out arC (by rw [e];rfl)) (.slice A5 (N.length+1) c5));have bC:=avE (bS (p:=⟨g,bb*4+3,none⟩) (bG (bA (bD HB4.out) _) hg5 (fun g hg=>(jg.out.lt g hg).1)) hg0 (.slice A5 (N.length+1) c5));have hS:fM (w.heap.size) w4 w5:=Below.grown (show Below w.heap.size w4 _ from ak.out) hg5 (avZ zG (show Below w.heap.size w4 _ from ak.out).size) (fun g hg=>(jg.out.lt g hg).1);clear dG hg5 iG hown5 jA jQ e2;clear ak;refine hK.out _ _ hS (fun _=>?_);clear hK K
          try simp only [pu]
          iterate 2 refine aC ?_
          refine bK ?_;clear hS;intro K hK ak;go_simp;refine hK.out _ _ (by unfold fM;have h:Below _ _ _:=ak.out;repeat (first | with_reducible assumption | with_reducible exact Below.refl _ _ | with_reducible refine jv ?_ arS _ | with_reducible refine Below.drew ?_ | with_reducible refine fE Pe ?_ _ | exact h)) ?_;intro hS;clear hK K ak
          try simp only [pu]
          refine o8 ?_;clear hS aH aB;intro hB;go_wp2;go_roundw
          case rel => exact ⟨k+1,_,by omega,by go_num,by rw [av9];exact hl4,jY.out,by rw [jf.out];exact HD.out.lone yJ.out hbl nd ⟨A5,N.length+1,c5⟩ JI.out MH.out,HT.out.set hbl rfl rfl,dF.out,bC.out⟩
          case measure => simp [intOf];omega
         ·have ak:=avE hS;clear hS;refine fK (fJ rfl) ?_;go_simp;refine hK.out _ _ (fE Pe ak.out _) (fun hS=>?_);clear hK K ak
          try simp only [pu]
          refine bK ?_;clear hS;intro K hK ak;go_simp;refine hK.out _ _ ak.out (fun hS=>?_);clear hK K ak
          try simp only [pu]
          refine bK ?_;clear hS;intro K hK ak;refine kW (.tmp 101) (.tmp 104) _ rfl (base:=w.heap.size) jR jB jT rfl ((jg.out.keep (bD (bR w4))).alloc _) rfl (l2:=[nd.id]) (Sl.lit (n:=1) (ah.made rfl _ _) rfl (dP Pe)) afr afr arV ?_;intro v5 w5 dG hg5 iG;obtain ⟨A5,c5,hv5,-⟩:=Own.lI dG;rw [iL.out] at hv5;subst hv5;have hown5:=Own.grown ((lN.out.own.keep (bD (bR w4))).alloc _) hg5 (fun g hg=>Own.apart lN.out.own jg.out arC g hg);obtain ⟨g',hg',-,vC,jQ,jA⟩:=Own.uD hown5 Pe;injection hg' with hg';injection hg' with hg' _ _;subst hg';obtain ⟨-,-,-,f2⟩:=jA bb hbl;have hf2:=jQ (bb*4+3);have jY:=avE (jm.SN arC (lN.out.keep (bA (bD (bR w4)) _)) hbl (qP:=⟨A5,N.length+1,c5⟩) (c:=nd.id) avm avk avn);have dF:=avE (ah.far (p:=⟨g,bb*4+3,none⟩) (ah.grown ((dI.out.drew).alloc _) hg5 (fun e=>Own.iO jg.out dI.out arC e.symm)) (fun e=>Own.iO lN.out.own dI.out arC (by rw [e];rfl)) (.slice A5 (N.length+1) c5));have bC:=avE (bS (p:=⟨g,bb*4+3,none⟩) (bG (bA (bD HB4.out) _) hg5 (fun g hg=>(jg.out.lt g hg).1)) hg0 (.slice A5 (N.length+1) c5));have hS:fM (w.heap.size) w4 w5:=Below.grown (show Below w.heap.size w4 _ from ak.out) hg5 (avZ zG (show Below w.heap.size w4 _ from ak.out).size) (fun g hg=>(jg.out.lt g hg).1);clear dG hg5 iG hown5 jA jQ e2;clear ak;refine hK.out _ _ hS (fun _=>?_);clear hK K
          try simp only [pu]
          iterate 2 refine aC ?_
          refine bK ?_;clear hS;intro K hK ak;go_simp;refine hK.out _ _ (by unfold fM;have h:Below _ _ _:=ak.out;repeat (first | with_reducible assumption | with_reducible exact Below.refl _ _ | with_reducible refine jv ?_ arS _ | with_reducible refine Below.drew ?_ | with_reducible refine fE Pe ?_ _ | exact h)) ?_;intro hS;clear hK K ak
          try simp only [pu]
          refine o8 ?_;clear hS aH aB;intro hB;go_wp2;go_roundw
          case rel => exact ⟨k+1,_,by omega,by go_num,by rw [av9];exact hl4,jY.out,by rw [jf.out];exact HD.out.lone yJ.out hbl nd ⟨A5,N.length+1,c5⟩ JI.out MH.out,HT.out.set hbl rfl rfl,dF.out,bC.out⟩
          case measure => simp [intOf];omega
       ·have h1:(dg == 0)=false:=by simpa using h0
        have SB:=avE (Ce.out h0);clear h0 Xu Ce;go_wp2;go_roundw
        case rel => exact ⟨k+1,L3,by omega,by go_num,hl4,l9.out,by rw [jf.out];exact SB.out,HT.out,dW.out,HB3.out⟩
        case measure => simp [intOf];omega
      ·have hkk:k=p.nodes.length:=by omega
       subst hkk;have hd:=HD.out;rw [List.take_length] at hd;have HDf:=avE hd;clear hd X1;go_wp2;go_ret;exact ⟨A,c,L3,by rw [hl4];rfl,Hb.out,by rw [hl4];exact HA.out,HDf.out,HT.out⟩
def GV (p:Pl) (v:Pt) (O:List (List Int)) (k n:Nat):Prop :=
 (n=0/\lX (fun X=>encS p X v) (iD p) (O.take k)=none)\/∃ hn:n-1<O.length,1<=n/\n<=k/\lX (fun X=>encS p X v) (iD p) (O.take k)=some O[n-1]
theorem aq3 (p:Pl) (v:Pt) (O:List (List Int)):GV p v O 0 0:=.inl ⟨rfl,by rw [List.take_zero];rfl⟩
theorem aq4 {p:Pl} {v:Pt} {O:List (List Int)} {k n:Nat} (h:GV p v O k n) (hk:k<O.length) (hE:encS p O[k] v=true) (hlt:n=0\/∃ hn:n-1<O.length,iD p O[k]<iD p O[n-1]):GV p v O (k+1) (k+1):=by
 refine .inr ⟨by omega,by omega,awe _,?_⟩;rw [aaT _ _ hk];unfold wL;rcases h with ⟨rfl,e⟩ | ⟨hb,h1,h2,e⟩
 · rw [e];simp [hE]
 ·rw [e];rcases hlt with g | ⟨_,g⟩
  · omega
  · simp [hE,g]
theorem ah1 {p:Pl} {v:Pt} {O:List (List Int)} {k n:Nat} (h:GV p v O k n) (hk:k<O.length) (hno:encS p O[k] v=false\/(n≠0/\∃ hn:n-1<O.length,¬ iD p O[k]<iD p O[n-1])):GV p v O (k+1) n:=by
 rcases h with ⟨rfl,e⟩ | ⟨hb,h1,h2,e⟩
 ·refine .inl ⟨rfl,?_⟩;rw [aaT _ _ hk,e];rcases hno with g | ⟨g,-⟩
  · unfold wL;simp [g]
  · exact absurd rfl g
 ·refine .inr ⟨hb,h1,by omega,?_⟩;rw [aaT _ _ hk,e];unfold wL;rcases hno with g | ⟨-,_,g⟩
  · simp [g]
  · simp [g]
theorem aq5 {p:Pl} (h:Valid p) {v:Pt} (nv:aZ v=true) {O:List (List Int)} (hO:O.Perm (iE p)) {n:Nat} (hb:GV p v O O.length n):n<=O.length/\uQ p v=xG O n:=by
 have e0:=h.anI hO.symm nv;unfold GV at hb;rw [List.take_length,e0] at hb;rcases hb with ⟨rfl,e⟩ | ⟨hb,h1,h2,e⟩
 · exact ⟨avK _,by rw [e];rfl⟩
 · exact ⟨h2,by rw [e,Md h1 h2]⟩
theorem aq6 (v vl:Value) (p:Pl) (CL:List (List Int×SV)) (O:List (List Int)) (at_:Pt) (w:World) (h:bQ w v p) (hv:Valid p) (hC:OO w vl CL) (hcl:CL.map (·.1)=O) (hO:O.Perm (iE p)) (nv:aZ at_=true) :
  Calls Tryz.prog 133 #[v,vl,aK at_] w fun e w'=>(∃ n:Nat,e=.returned (.int .i64 ((n:Int)-1))/\n<=O.length/\uQ p at_=xG O n)/\Below w.heap.size w w':=by
 have hmo:∀ X∈O,X∈cO p:=fun X hX=>(Dv.1 (hO.subset hX)).1;have acf:∀ X∈O,X.length<=512:=fun X hX=>avZ (Dk (hv.lV (hmo X hX)).1 (hv.lV (hmo X hX)).2) hv.Xa;have xk:=avE (fun u l (hl:l∈O) W (hu:Ints W u l) (hW:Below w.heap.size w W)=>show Calls Tryz.prog 132 #[v,u] W fun e w'=>e=.returned (.int .i64 (iD p l))/\Below W.heap.size W w' from by
  have t:=aan v u p l W (h.mono hW) hu hv (fun d hd=>by have:=hv.tZ ((hv.lV (hmo l hl)).2 d hd);exact qX Pe Pe);rw [hv.Xb (hmo l hl)] at t;exact t)
 have acg:=fun u l (hl:l∈O) W (hu:Ints W u l) (hW:Below w.heap.size w W)=>aqT v u p l at_ W (h.mono hW) hv hu (hv.lV (hmo l hl)).2 (by have:=acf l hl;omega) nv;unfold aK at acg ⊢;have yC:=avE acg;clear acg;have aq7:=avE (fun n (hb:GV p at_ O O.length n)=>aq5 hv nv hO hb);have hol:O.length<=512:=by
  rw [hO.length_eq];exact avZ (List.length_filter_le _ _) hv.GI
 have hll:CL.length=O.length:=by rw [<- hcl,avM]
 obtain ⟨⟨Ac,cc,rfl,hc1,hc2,uf⟩,hI⟩:=hC;unfold maxLen at hc2;obtain ⟨_,_,_,al,rfl,hpa,⟨An,cn,rfl,-⟩,⟨⟨Aa,ca,rfl,-⟩,-⟩,⟨Af,cf,rfl,-⟩⟩:=h;have zK:=avE uf;have HI:=avE hI;have nU:=avE hcl;have iM:=avE hll;have auV:CL.length<=512:=by omega
 clear hpa hv uf hI hcl hll hmo acf hO;generalize p.nodes.length=nn at *;generalize al.length=na at *;generalize p.faces.length=nf at *;go_enter Tryz.func133,Tryz.ntmps133;go_upto_block 0 with fail;obtain ⟨W1,hW⟩:∃ W:World,W=(w.alloc (.cells #[.slice An nn cn,.slice Aa na ca,.slice Af nf cf] 26)).alloc (.cells #[.int .i64 at_.x,.int .i64 at_.y] 39):=⟨_,rfl⟩;have gq:=avE (show ah W1 w.heap.size 26 #[.slice An nn cn,.slice Aa na ca,.slice Af nf cf] by rw [hW];exact (ah.made rfl _ _).alloc _);have dh:=avE (show ah W1 (w.heap.size+1) 39 #[.int .i64 at_.x,.int .i64 at_.y] by rw [hW];exact ah.made ars _ _);have HB1:=avE (show Below w.heap.size w W1 by rw [hW];exact bA (bA (bR w) _) _);rw [<- hW];clear hW;go_wp2_with fail;go_loopw [7,8] (fun s i wr=>∃ k n:Nat,k<=CL.length/\n<=k/\i=.int .i64 k/\s=.int .i64 ((n:Int)-1)/\GV p at_ O k n/\Below W1.heap.size W1 wr) (fun _ i _=>CL.length-(intOf i).toNat)
 case atStart => exact ⟨0,0,avK _,avK _,rfl,rfl,aq3 p at_ O,bR W1⟩
 case round =>
  obtain ⟨k,n,hk,hnk,rfl,rfl,jK,hb⟩:=hrel;have iT:=avE jK;have HB:=avE hb;have jW:=avE (bT HB1.out hb);have X1:=gq.out.keep hb;have X2:=dh.out.keep hb;clear jK hb;by_cases hlt:k<CL.length
  ·have hlo:k<O.length:=by have:=iM.out;omega
   obtain ⟨b,o,rfl,hlb,c0⟩:=(zK.out.mono jW.out).cy hlt;have hin:=(HI.out _ (avF hlt));have hoe:=OU nU.out hlt hlo;have hmem:O[k]∈O:=avF hlo;have hyes:=avE (fun hE hl=>aq4 iT.out hlo hE hl);have hnot:=avE (fun hE=>ah1 iT.out hlo (.inl hE));have Oy:=avE (fun hE=>ah1 iT.out hlo (.inr hE));rw [hoe] at hmem hyes hnot Oy;generalize CL[k]=x at *;obtain ⟨X,xa,xn,xc⟩:=x;simp only at hin c0 hmem hyes hnot Oy hoe;have jf:=avE (fun W (hW:Below w.heap.size w W)=>xk.out _ X hmem W (hin.mono hW) hW);have Xw:=avE (fun W (hW:Below w.heap.size w W)=>yC.out _ X hmem W (hin.mono hW) hW);obtain ⟨E,hE⟩:∃ E,encS p X at_=E:=⟨_,rfl⟩;rw [hE] at Xw hyes hnot;obtain ⟨t,ht⟩:∃ t,iD p X=t:=⟨_,rfl⟩;rw [ht] at jf hyes Oy;have k1:(k:Int)<CL.length:=by omega
   have k2:0<=(k:Int):=by omega
   clear hoe hmem hin hE ht hlo
   cases E
   case false =>
    obtain ⟨aS,aT,aU,aW,-,-,-⟩:=X1.aF;obtain ⟨aG,aI,aJ,-,-⟩:=X2.aQ;go_upto_region 5 with fail;refine dH (wr) (.run 6 0 0 (.call 6 127 (.run 19 7 127 (.done)))) fun bZ QR aB aH hS=>?_
    iterate 6 refine aC ?_
    refine fV (Xw.out _ (bT jW.out hS)) ?_;clear hS;intro cZ bW hS;refine aC ?_
    iterate 17 refine jC ?_
    refine aC ?_;refine dB ?_;clear hS aH aB;intro hB;have bC:=avE (bT HB.out hB);clear hB X1 aS aT aU aW X2 aG aI aJ c0;go_wp2;go_roundw
    case rel => exact ⟨k+1,n,by omega,by omega,by go_num,rfl,hnot.out rfl,bC.out⟩
    case measure => simp [intOf];omega
   case true =>
    rcases Nat.eq_zero_or_pos n with h0 | h0
    ·subst h0;have kz:((0:Nat):Int)-1=-1:=rfl;rw [kz];have hy:=avE (hyes.out rfl (.inl rfl));clear kz
     try clear aS
     try clear aT
     try clear aU
     try clear aW
     obtain ⟨aS,aT,aU,aW,-,-,-⟩:=X1.aF
     try clear aG
     try clear aI
     try clear aJ
     obtain ⟨aG,aI,aJ,-,-⟩:=X2.aQ;go_upto_region 5 with fail;refine dH (wr) (.run 6 0 0 (.call 6 127 (.run 19 7 127 (.done)))) fun bZ QR aB aH hS=>?_
     iterate 6 refine aC ?_
     refine fV (Xw.out _ (bT jW.out hS)) ?_;clear hS;intro cZ bW hS;refine aC ?_
     iterate 3 refine dN ?_
     iterate 13 refine jC ?_
     refine dN ?_;refine aC ?_;refine dB ?_;clear hS aH aB;intro hB;have bC:=avE (bT HB.out hB);clear hB X1 aS aT aU aW X2 aG aI aJ c0;go_wp2;go_roundw
     case rel => exact ⟨k+1,k+1,by omega,by omega,by go_num,by rw [show (((k+1:Nat):Int)-1)=k by omega],hy.out,bC.out⟩
     case measure => simp [intOf];omega
    ·have hnl:n-1<CL.length:=by omega
     have hno:n-1<O.length:=by have:=iM.out;omega
     obtain ⟨b',o',hA',-,e0⟩:=(zK.out.mono jW.out).cy hnl;injection hA' with hA';injection hA' with y1 y2 _;subst y1 y2;have hin:=(HI.out _ (avF hnl));have hoe:=OU nU.out hnl hno;have hmem:O[n-1]∈O:=avF hno;have Xx:=avE (fun (h:t<iD p O[n-1])=>hyes.out rfl (.inr ⟨hno,h⟩));have Xy:=avE (fun (h:¬ t<iD p O[n-1])=>Oy.out ⟨by omega,hno,h⟩);rw [hoe] at hmem Xx Xy;obtain ⟨m,rfl⟩:∃ m,n=m+1:=⟨n-1,by omega⟩;simp only [Nat.add_sub_cancel] at *;generalize CL[m]=y at *;obtain ⟨Y,ya,yn,yc⟩:=y;simp only at hin e0 hmem Xx Xy hoe;have HTm:=avE (fun W (hW:Below w.heap.size w W)=>xk.out _ Y hmem W (hin.mono hW) hW);obtain ⟨u,hu⟩:∃ u,iD p Y=u:=⟨_,rfl⟩;rw [hu] at HTm Xx Xy;have km:(((m+1:Nat):Int)-1)=(m:Int):=by omega
     rw [km];have k3:(m:Int)<CL.length:=by omega
     have k4:0<=(m:Int):=by omega
     have k5:¬ (m:Int)<0:=by omega
     clear km hoe hmem hin hu hno
     try clear aS
     try clear aT
     try clear aU
     try clear aW
     obtain ⟨aS,aT,aU,aW,-,-,-⟩:=X1.aF
     try clear aG
     try clear aI
     try clear aJ
     obtain ⟨aG,aI,aJ,-,-⟩:=X2.aQ;go_upto_region 5 with fail;refine dH (wr) (.run 6 0 0 (.call 6 127 (.run 9 7 127 (.run 5 17 65535 (.call 16 4194303 (.call 22 8388607 (.run 3 23 8388607 (.done)))))))) fun bZ QR aB aH hS=>?_
     iterate 6 refine aC ?_
     refine fV (Xw.out _ (bT jW.out hS)) ?_;clear hS;intro cZ bW hS;refine aC ?_
     iterate 13 refine dN ?_
     refine fV (jf.out _ (bT jW.out hS)) ?_;clear hS;intro wr2 iW hS;refine fV (HTm.out _ (bT jW.out hS)) ?_;clear hS;intro wr3 qj hS
     iterate 2 refine dN ?_
     refine aC ?_;refine dB ?_;clear hS aH aB;intro hB;have bC:=avE (bT HB.out hB);clear hB X1 aS aT aU aW X2 aG aI aJ c0 e0;by_cases c:t<u
     ·have hy:=avE (Xx.out c);go_wp2;go_roundw
      case rel => exact ⟨k+1,k+1,by omega,by omega,by go_num,by rw [show (((k+1:Nat):Int)-1)=k by omega],hy.out,bC.out⟩
      case measure => simp [intOf];omega
     ·have hy:=avE (Xy.out c);go_wp2;go_roundw
      case rel => exact ⟨k+1,m+1,by omega,by omega,by go_num,by rw [show (((m+1:Nat):Int)-1)=m by omega],hy.out,bC.out⟩
      case measure => simp [intOf];omega
  ·have hkk:k=O.length:=by have:=iM.out;omega
   have jK:=iT.out;rw [hkk] at jK;have HF:=avE (aq7.out n jK);clear jK hkk X1 X2;go_wp2;go_ret;exact ⟨⟨n,rfl,HF.out⟩,jW.out⟩
theorem aq8 (f:Int->Int) (D:List Int) (hD:∀ x∈D,f x∈D) (hi:∀ x∈D,∀ y∈D,f x=f y->x=y) (l:List (Int×Int)) (hpr:∀ x∈l,x.2=f x.1) (hmem:∀ d∈D,d∈l.map (·.1)) (hlen:l.length=D.length) (hl:D.length<=100000) (u v:Value) (d:Int) (hd:d∈D) (w:World) (hu:Ints w u (l.map (·.1))) (hv:Ints w v (l.map (·.2))) :
  Calls Tryz.prog 195 #[u,v,.int .i64 d] w (VJ w (lG f D d)):=by
 obtain ⟨o1,-,o3,o4,o5,o6⟩:=Dl hD hi hd;have oN:nN f D d<=D.length:=by
  have:=Dk o5 (fun y hy=>Qq hD hd hy)
  rwa [o6] at this
 obtain ⟨A1,c1,rfl,hn1,hc1,hR1⟩:=hu;obtain ⟨A2,c2,rfl,hn2,hc2,hR2⟩:=hv;rw [avM] at hn1 hn2 ⊢;rw [avM];unfold maxLen at hc1 hc2;have HR1:=avE hR1;have HR2:=avE hR2;have HPr:=avE hpr;have KZ:=avE (fun j=>hmem _ (Eh (f:=f) hD hd j));obtain ⟨q,hq⟩:∃ q,lG f D d=q:=⟨_,rfl⟩;rw [hq] at o6 ⊢;have VD:=avE (show iter f d (nN f D d)=q from hq);have rQ:=avE o6;have H3:=avE o3;have H4:=avE o4;clear hR1 hR2 hpr hmem hq o6 o3 o4 o5 hD hi hd;rw [<- hlen] at oN hl;clear hlen;generalize nN f D d=N at *;go_enter Tryz.func195,Tryz.ntmps195;go_upto_block 0 with fail;have Rf:=avE (Own.lit w w.heap.size 3 1 dw [d] #[.int .i64 d] 1 w.heap.size rfl rfl (awe _) (dP Pe) rfl rfl);go_wp2_with fail;go_loopw [7] (fun s wr=>∃ j:Nat,j+1<=N/\(∃ A c,s=.slice A (j+1) c)/\Own wr w.heap.size 3 1 dw s (iter f d (j+1))/\Below w.heap.size w wr) (fun s _=>N-lenV s)
 case atStart => exact ⟨0,by omega,⟨_,_,rfl⟩,Rf.out,bA (bR w) _⟩
 case round =>
  obtain ⟨j,hj,⟨A,c,rfl⟩,own,hb⟩:=hrel;obtain ⟨wo,rfl⟩:∃ wo:World,wo=wr:=⟨_,rfl⟩;have HO:=avE own;have Hb:=avE hb;clear own hb Rf;have hjl:(j:Int)+1<=l.length:=by omega
  obtain ⟨y,hy⟩:∃ y,pw f d j=y:=⟨_,rfl⟩;have HY:=avE hy;clear hy;go_upto_block 2 with fail;go_wp2_with fail;go_loopw [8,9] (fun t i wr=>∃ (k:Nat) (x:Int),k<=l.length/\i=.int .i64 k/\t=.int .i64 x/\Below wo.heap.size wo wr/\(x=f y\/∀ m (hm:m<l.length),m<k->l[m].1≠y)) (fun _ i _=>l.length-(intOf i).toNat)
  case atStart => exact ⟨0,0,avK _,rfl,rfl,bR wo,.inr (fun m _ h=>by omega)⟩
  case round =>
   obtain ⟨k,x,hk,rfl,rfl,hb2,hx⟩:=hrel;have Hb2:=avE hb2;have HX:=avE hx;have hz2:=hb2.size;clear hb2 hx;by_cases hlt:k<l.length
   ·obtain ⟨b1,q1,rfl,hl1,e1⟩:=(HR1.out.mono (bT Hb.out Hb2.out)).int (k:=k) (by rw [avM];exact hlt);obtain ⟨b2,q2,rfl,hl2,e2⟩:=(HR2.out.mono (bT Hb.out Hb2.out)).int (k:=k) (by rw [avM];exact hlt);obtain ⟨b3,q3,rfl,hl3,e3⟩:=((HO.out.keep Hb2.out).row_in).int (k:=j) (by rw [xZ];omega);rw [av4] at e1 e2;rw [KE,HY.out] at e3;rw [HPr.out _ (avF hlt)] at e2;have HS:=avE (show ∀ m (hm:m<l.length),m<k+1->m=k\/m<k from fun m _ h=>by omega);have HN:=avE (show (l[k].1 == y)=false->(x=f y\/∀ m (hm:m<l.length),m<k+1->l[m].1≠y) from fun he=>by
     rcases HX.out with h | h
     · exact .inl h
     ·refine .inr (fun m hm hmk=>?_);by_cases e:m=k
      · subst e;simpa using he
      · exact h m hm Pe)
    clear HS;generalize l[k].1=z at *;have k2:IntKind.i64.wrap ((j:Int)+1-1)=j:=by rw [show (j:Int)+1-1=j by omega];exact avS _ Pe
    have k3:IntKind.i64.wrap (j:Int)=j:=avS _ Pe;have k4:(j:Int)<(j:Int)+1:=by omega
    have k5:0<=(j:Int):=by omega
    have k6:(j:Int)+1-1=j:=by omega
    have k7:(k:Int)<l.length:=by omega
    go_upto_region 7 with fail;refine dH (wr) (.run 11 0 0 (.done)) fun bZ QR aB aH hS=>?_
    iterate 11 refine aC ?_
    refine dB ?_;clear hS aH aB;intro hB;obtain ⟨W7,hW⟩:∃ W:World,W=wr.drew:=⟨_,rfl⟩;rw [<- hW] at hB ⊢;have gW:=avE (bT Hb2.out hB);replace e2:=kF hB e2;have auW:b2<W7.heap.size:=by have:=hB.size;omega
    clear hW hB k2 k3 k4 k5 k6 e1 e3
    cases hz:(z == y)
    ·have su:=avE (HN.out hz);clear HN;go_wp2;go_roundw
     case rel => exact ⟨k+1,x,by omega,by go_num,rfl,gW.out,su.out⟩
     case measure => simp [intOf];omega
    ·have hzy:z=y:=by simpa using hz
     rw [hzy] at e2;clear HN hzy;go_wp2;go_roundw
     case rel => exact ⟨k+1,f y,by omega,by go_num,rfl,gW.out,.inl rfl⟩
     case measure => simp [intOf];omega
   ·have hxe:x=f y:=by
     rcases HX.out with h | h
     · exact h
     ·exfalso;obtain ⟨a,ha,e⟩:=av6.1 (KZ.out j);obtain ⟨m,hm,rfl⟩:=avI.1 ha;rw [HY.out] at e;exact h m hm Pe e
    have hyn:f y=pw f d (j+1):=by rw [<- HY.out];rfl
    rw [hyn] at hxe;subst hxe;have iU:=avE (HO.out.keep Hb2.out);have hsn:iter f d (j+1+1)=iter f d (j+1)++[pw f d (j+1)]:=aae _ _ _;have Oj:=avE hsn;clear hyn hsn;have Hb3:=avE (bT Hb.out Hb2.out);have hjN:pw f d (j+1)=d->j+1=N:=fun e=>by
     rcases Nat.lt_or_ge (j+1) N with h | h
     · exact absurd e (H4.out _ Pe h)
     · omega
    have ah2:pw f d (j+1)≠d->j+1<N:=fun e=>by
     rcases Nat.lt_or_ge (j+1) N with h | h
     · exact h
     ·have:j+1=N:=by omega
      rw [this,H3.out] at e;exact absurd rfl e
    have HJ:=avE hjN;have HJ2:=avE ah2;clear hjN ah2;generalize pw f d (j+1)=x at *
    cases hxd:(x == d)
    ·have hlt2:=HJ2.out (by simpa using hxd);go_wp2_with
      (at_builtin
       refine iZ _ rfl (.tmp 42) (.tmp 44) _ rfl (base:=w.heap.size) jR jB jT rfl (Own.alloc iU.out _) rfl (l2:=[x]) (Sl.lit (n:=1) (ah.made rfl _ _) rfl (dP Pe)) avp avp (by have:=Hb3.out.size;simp;omega) ?_;intro v5 w5 dG hg5 iG;rw [<- Oj.out] at dG;obtain ⟨A5,c5,hv5,-⟩:=Own.lI dG;rw [xZ] at hv5;subst hv5;have jd:=avE dG;have bC:=avE (bG (bA Hb3.out _) hg5 (fun g hg=>(iU.out.lt g hg).1));clear dG hg5 iG)
     go_roundw
     case rel => exact ⟨j+1,by omega,⟨A5,c5,rfl⟩,jd.out,bC.out⟩
     case measure => simp only [lenV];omega
    ·have hjn:=HJ.out (by simpa using hxd);have ho:=iU.out;subst hjn;rw [VD.out] at ho;have BX:=avE ho;clear ho;go_wp2;go_ret;exact ⟨A,c,by rw [rQ.out];rfl,Hb3.out,by rw [rQ.out];exact BX.out⟩
end Go.Proofs.YtialfdomhoojiaaGreat
