import Derived.Deep.CutBlock
import Derived.Test.YtialfdomhoojiaaGreatJ33
import Derived.Test.YtialfdomhoojiaaGreatJ34
import Derived.Test.YtialfdomhoojiaaGreatJ31
import Derived.Test.YtialfdomhoojiaaGreatJ26
import Derived.Test.YtialfdomhoojiaaGreatJ25
import Derived.Test.YtialfdomhoojiaaGreatJ28
set_option linter.unusedSimpArgs false
set_option linter.unusedVariables false
namespace Go.Proofs.YtialfdomhoojiaaGreat
open Go.RowKit
def F7 (x:AD) (j:Nat):List Int:=((kN x).take j).flatMap (·.1)
def wG (L:List AD) (k:Nat):List Int:=(L.take k).flatMap (fun x=>qG (jS x))
def wH (L:List AD) (k:Nat):List Int:=(L.take k).flatMap (·.bn)
theorem abt {α:Type} (f:α->List Int) (l:List α) (k:Nat):((l.take k).flatMap f).length<=(l.flatMap f).length:=by
 conv=>rhs;rw [<- List.take_append_drop k l,List.flatMap_append,List.length_append]
 omega
theorem asu {x:AD} {j:Nat} (hj:j<(kN x).length):F7 x (j+1)=F7 x j++(kN x)[j].1:=by
 unfold F7;rw [List.take_succ_eq_append_getElem hj,List.flatMap_append];simp
theorem ais (x:AD):F7 x (kN x).length=qG (jS x):=by
 unfold F7;rw [List.take_length,List.flatMap_def];rfl
theorem asv {L:List AD} {k:Nat} (hk:k<L.length):wG L (k+1)=wG L k++qG (jS L[k]):=by
 unfold wG;rw [List.take_succ_eq_append_getElem hk,List.flatMap_append];simp
theorem asw {L:List AD} {k:Nat} (hk:k<L.length):wH L (k+1)=wH L k++L[k].bn:=by
 unfold wH;rw [List.take_succ_eq_append_getElem hk,List.flatMap_append];simp
theorem asx (L:List AD) (k:Nat):(wG L k).length<=(wG L L.length).length:=by
 unfold wG;rw [List.take_length];exact abt _ _ _
theorem asy (L:List AD) (k:Nat):(wH L k).length<=(wH L L.length).length:=by
 unfold wH;rw [List.take_length];exact abt _ _ _
theorem asz (x:AD) (j:Nat):(F7 x j).length<=(qG (jS x)).length:=by
 rw [<- ais];unfold F7;rw [List.take_length];exact abt _ _ _
structure abu (p:Pl) (L:List AD) (N M:Nat):Prop where
 len:(L.length:Int)=1+p.ah.length-p.nodes.length+EN p
 faces:L.length=1+p.faces.length
 sides:∀ x∈L,∀ c∈kN x,∀ d∈c.1,jd p d=x.tw/\dP d
 dN:(wG L L.length).length=N
 N2:N=2*p.ah.length
 norm:(tH (wG L L.length)).length=N
 aM:(wH L L.length).length=M
 alone:(tH (wH L L.length)).length=M
 cnt:(p.nodes.filter (fun n=>decide (iM p.ah n.id=0))).length=M
 inn:∀ x∈L,x.inn.length<=512
theorem abu.of {p:Pl} {L:List AD} {l:List Rg} (hv:Valid p) (hc:ahI p l) (he:L.map jS=l) (hd:∀ d∈l.flatMap qG,d∈aQ p) (hin:∀ r∈l,r.inn.length<=512):∃ N M,abu p L N M:=by
 subst he;have e1:(L.map jS).flatMap qG=wG L L.length:=by unfold wG;rw [List.take_length,List.flatMap_map]
 have e2:(L.map jS).flatMap (·.bn)=wH L L.length:=by unfold wH;rw [List.take_length,List.flatMap_map];rfl
 have h1:=hc.len;have h2:=hc.faces;rw [List.length_map] at h1 h2;refine ⟨_,_,h1,h2,fun x hx c hcx d hdc=>?_,rfl,?_,?_,rfl,?_,?_,fun x hx=>?_⟩
 ·have hm:jS x∈L.map jS:=List.mem_map_of_mem hx;have hcm:c.1∈(jS x).out::(jS x).inn:=by
   rcases List.mem_cons.1 hcx with rfl | h
   · exact List.mem_cons_self
   · exact List.mem_cons_of_mem _ (List.mem_map_of_mem h)
  refine ⟨hc.sides _ hm _ hcm d hdc,?_⟩;have hdm:d∈(L.map jS).flatMap qG:=by
   refine List.mem_flatMap.2 ⟨_,hm,?_⟩;unfold qG;rcases List.mem_cons.1 hcm with h | h
   · rw [<- h];exact List.mem_append_left _ hdc
   · exact List.mem_append_right _ (List.mem_flatten.2 ⟨_,h,hdc⟩)
  have hb:=hv.Dv (hd d hdm);exact kQ (by omega) (by omega)
 · rw [<- e1];exact hc.aqX
 · rw [<- e1];exact hc.norm
 · rw [<- e2];exact hc.alone
 · rw [<- e2];exact hc.cnt
 ·have:=hin _ (List.mem_map_of_mem hx)
  unfold jS at this;simpa using this
theorem asA {l:List Nd} {f:Nd->Bool} {k:Nat} (hk:k<l.length):((l.take (k+1)).filter f).length=((l.take k).filter f).length+if f l[k]=true then 1 else 0:=by
 rw [List.take_succ_eq_append_getElem hk,List.filter_append,List.length_append];congr 1;simp only [List.filter_cons,List.filter_nil];split<;>rfl
theorem cnt_le {l:List Nd} {f:Nd->Bool} (k:Nat):((l.take k).filter f).length<=(l.filter f).length:=((List.take_sublist k l).filter f).length_le
set_option maxRecDepth 100000 in
set_option maxHeartbeats 8000000 in
theorem asB (v:Value) (p:Pl) (w:World) (h:dS w v p) (hs:GI p) :
  Calls Tryz.prog 10 #[v] w fun e w'=>e=.returned (.bool true)/\Below w.heap.size w w':=by
 have HLt:=Lib.hid (fun W (hW:Below w.heap.size w W)=>asr v p W (h.mono hW) (fun a ha=>Nat.le_trans (hs a ha) (by omega)));have jr:=Lib.hid (fun W (hW:Below w.heap.size w W)=>agP v p W (h.mono hW));have Qp:=Lib.hid (fun (hv:jG p=0) W (hW:Below w.heap.size w W)=>agR v p W (h.mono hW) hv);have HEu:=Lib.hid (fun (hv:Valid p) W (hW:Below w.heap.size w W)=>apJ v p W (h.mono hW) hv);have zq:=Lib.hid (fun d (hd:dP d) W (hW:Below w.heap.size w W)=>adJ v p d W (h.mono hW) hs hd);have CJ:=Lib.hid (fun (hl:p.ah.length<=1099511627776) id W (hW:Below w.heap.size w W)=>ab3 v p id W (h.mono hW) hl);have HAw:=Lib.hid arT;obtain ⟨_,_,_,al,rfl,hpa,⟨An,cn,rfl,hn1,hn2,P9⟩,⟨⟨Aa,ca,rfl,ha1,ha2,-⟩,-⟩,⟨Af,cf,rfl,hf1,hf2,-⟩⟩:=h;have HRn:=Lib.hid P9;have rM:=Lib.hid (show al.length=p.ah.length by rw [hpa,List.length_map]);unfold maxLen at ha2 hn2 hf2;generalize hnn:p.nodes.length=nn at *;generalize hnf:p.faces.length=nf at *;have PK:=Lib.hid hnf;have xP:=Lib.hid hnn;clear hs hpa P9 hnf hnn;go_enter Tryz.func10,Tryz.ntmps10;go_upto_region 1 with fail;obtain ⟨W1,hW⟩:∃ W1:World,W1=w.alloc (.cells #[.slice An nn cn,.slice Aa al.length ca,.slice Af nf cf] 26):=⟨_,rfl⟩;have X1:aj W1 w.heap.size 26 #[.slice An nn cn,.slice Aa al.length ca,.slice Af nf cf]:=by rw [hW];exact aj.made rfl _ _
 have HB1:=Lib.hid (show Below w.heap.size w W1 by rw [hW];exact bA (bR w) _);rw [<- hW];clear hW;have eH:=Lib.hid X1;obtain ⟨aI,aJ,aK,aP,-,-,-⟩:=X1.bC;go_wp2_with fail;refine (HLt.out _ HB1.out).mono ?_;rintro e w2 ⟨lt,rfl,hlt,hb2⟩;have HB2:=Lib.hid (bT HB1.out hb2);have BX:=Lib.hid (eH.out.keep hb2);clear hb2 HLt X1 aI aJ aK aP eH HB1
 cases lt
 case false =>
  go_wp2_with fail;refine (HAw.out _).mono ?_;rintro e w3 ⟨rfl,hb3⟩;go_wp2_with fail;go_ret;exact ⟨rfl,bT HB2.out hb3⟩
 have VK:=hlt rfl;have hal:al.length<=30:=by have:=VK.ah;have:=rM.out;omega
 have hfl:nf<=30:=by have:=VK.faces;have:=PK.out;omega
 have hnl:nn<=30:=by have:=VK.nodes;have:=xP.out;omega
 clear hlt VK;have X1:=BX.out
 try clear aI
 try clear aJ
 try clear aK
 try clear aP
 obtain ⟨aI,aJ,aK,aP,-,-,-⟩:=X1.bC;go_wp2_with fail;refine (jr.out _ HB2.out).mono ?_;rintro e w3 ⟨rfl,hb3⟩;have HB3:=Lib.hid (bT HB2.out hb3);have uO:=Lib.hid (BX.out.keep hb3);clear hb3 jr X1 aI aJ aK aP BX HB2;by_cases hz:jG p=0
 case neg =>
  generalize jG p=q at *;have hzb:(q != 0)=true:=by simpa using hz
  go_wp2_with fail;refine (HAw.out _).mono ?_;rintro e w4 ⟨rfl,hb4⟩;go_wp2_with fail;go_ret;exact ⟨rfl,bT HB3.out hb4⟩
 have HR4:=Lib.hid (Qp.out hz);obtain ⟨hv,hfc⟩:=PW hz;have hco:=hv.aqY (KZ.1 hfc) (Io (aN p)).1;have hdt:∀ d∈(xM p (sortK (aN p))).flatMap qG,d∈aQ p:=fun d hd=>(((UY hv (KZ.1 hfc) (Io (aN p)).1).flatMap_right qG).trans hv.aa8).subset hd;have hin:∀ r∈xM p (sortK (aN p)),r.inn.length<=512:=fun r hr=>by
  obtain ⟨b,-,rfl⟩:=List.mem_map.1 ((UY hv (KZ.1 hfc) (Io (aN p)).1).subset hr)
  show (lW p b).length<=512
  unfold lW;exact Nat.le_trans (List.length_filter_le _ _) (Nat.le_trans (List.length_filter_le _ _) hv.DF)
 have HE4:=Lib.hid (HEu.out hv);have zT:=Lib.hid (fun (L:List AD) (he:L.map jS=xM p (sortK (aN p)))=>abu.of hv hco he hdt hin);have HD4:=Lib.hid (CJ.out (by have:=rM.out;omega));have X1:=uO.out;rw [hz];clear hz hv hfc hco hdt hin Qp HEu CJ
 try clear aI
 try clear aJ
 try clear aK
 try clear aP
 obtain ⟨aI,aJ,aK,aP,-,-,-⟩:=X1.bC;go_upto_region 3 with fail;go_wp2_with fail;refine (HR4.out _ HB3.out).mono ?_;rintro e w4 ⟨Al,cl,L,rfl,hb4,hL,hG⟩;obtain ⟨N,M,hC⟩:=zT.out L hG;have HC:=Lib.hid hC;have HL:=Lib.hid hL;have HB4:=Lib.hid (bT HB3.out hb4);have LV:=Lib.hid (uO.out.keep hb4);clear hb4 HR4 zT hL hG hC X1 aI aJ aK aP uO HB3;have X1:=LV.out
 try clear aI
 try clear aJ
 try clear aK
 try clear aP
 obtain ⟨aI,aJ,aK,aP,-,-,-⟩:=X1.bC;go_upto_region 4 with fail;go_wp2_with fail;refine (HE4.out _ HB4.out).mono ?_;rintro e w5 ⟨rfl,hb5⟩;have dK:=Lib.hid (bT HB4.out hb5);have DW:=Lib.hid (LV.out.keep hb5);have Qr:=Lib.hid (HL.out.mono hb5);clear hb5 HE4 X1 aI aJ aK aP LV HB4 HL;obtain ⟨n,hn⟩:∃ n,L.length=n:=⟨_,rfl⟩;have hl1:=HC.out.len;have hl2:=HC.out.faces;rw [hn] at hl1 hl2;rw [xP.out,<- rM.out] at hl1;rw [PK.out] at hl2;rw [hn,<- rM.out];generalize EN p=P at *;have HN:=Lib.hid hn;have e1:IntKind.i64.wrap (1+(al.length:Int))=1+(al.length:Int):=IntWalk.i64_in _ (by omega);have e2:IntKind.i64.wrap (1+(al.length:Int)-(nn:Int))=1+(al.length:Int)-(nn:Int):=IntWalk.i64_in _ (by omega);have e3:IntKind.i64.wrap (1+(al.length:Int)-(nn:Int)+P)=(n:Int):=by rw [<- hl1];exact IntWalk.i64_in _ (by omega)
 have e4:IntKind.i64.wrap (1+(nf:Int))=(n:Int):=by rw [show 1+(nf:Int)=n by omega];exact IntWalk.i64_in _ (by omega)
 have X1:=DW.out;have hnb:n<=31:=by omega
 have HL2:=Lib.hid hl2;clear hn hl1 hl2
 try clear aI
 try clear aJ
 try clear aK
 try clear aP
 obtain ⟨aI,aJ,aK,aP,-,-,-⟩:=X1.bC;go_upto_region 7 with fail;clear e1 e2 e3 e4 X1 aI aJ aK aP;go_upto_block 0 with fail;go_wp2_with fail;go_loopw [10,11,12] (fun s t u wr=>∃ k:Nat,k<=n/\u=.int .i64 k/\(∃ A c,s=.slice A (wG L k).length c)/\(∃ A c,t=.slice A (wH L k).length c)/\Own wr w5.heap.size 3 1 dO s (wG L k)/\Own wr w5.heap.size 3 1 dO t (wH L k)/\lH s t/\Below w5.heap.size w5 wr) (fun _ _ u _=>n-(intOf u).toNat)
 case atStart => exact ⟨0,Nat.zero_le _,rfl,⟨none,0,rfl⟩,⟨none,0,rfl⟩,Own.nil _ _ _ _ _,Own.nil _ _ _ _ _,(fun g hg=>by cases hg),bR w5⟩
 case round =>
  obtain ⟨k,hk,rfl,⟨A1,c1,rfl⟩,⟨A2,c2,rfl⟩,ho,ha,hs,hb⟩:=hrel;obtain ⟨wo,rfl⟩:∃ wo:World,wo=wr:=⟨_,rfl⟩;by_cases hlt:k<n
  ·have k1:k<L.length:=by rw [HN.out];exact hlt
   have hdn:=asv k1;have hen:=asw k1;have hdl:=asx L (k+1);have hel:=asy L (k+1);rw [HC.out.dN,hdn,List.length_append] at hdl;rw [HC.out.aM,hen,List.length_append] at hel;have Qs:=HC.out.N2;have hM2:M<=nn:=by rw [<- HC.out.cnt,<- xP.out];exact List.length_filter_le _ _
   rw [<- rM.out] at Qs;obtain ⟨D,hD⟩:∃ D,wG L k=D:=⟨_,rfl⟩;obtain ⟨E,hE⟩:∃ E,wH L k=E:=⟨_,rfl⟩;rw [hD] at ho hdn hdl ⊢;rw [hE] at ha hen hel ⊢;rw [hD,hE] at hs;obtain ⟨AA,cc,he,-,-,hR⟩:=Qr.out.sl;injection he with e1 e2 e3;subst e1;clear e2 e3 hD hE;obtain ⟨b,o,hA,hlb,d0,d1,d2,d3⟩:=hR.ad k1;subst hA;have m1:=List.getElem_mem k1;have hsd:=HC.out.sides _ m1;have hinl:=HC.out.inn _ m1;have Ho:=Lib.hid (fun W (hW:Below w5.heap.size w5 W)=>((Qr.out.mono hW).out _ m1));have Hi:=Lib.hid (fun W (hW:Below w5.heap.size w5 W)=>((Qr.out.mono hW).inn _ m1));have Hc:=Lib.hid (fun W (hW:Below w5.heap.size w5 W)=>((Qr.out.mono hW).iJ _ m1));have Ha:=Lib.hid (fun W (hW:Below w5.heap.size w5 W)=>((Qr.out.mono hW).bn _ m1));generalize L[k]=x at *;have hsu:=fun j (hj:j<(kN x).length)=>asu hj;have hal':=ais x;have hle:=asz x;have HCm:=Lib.hid (show ∀ z∈kN x,∀ W,Below w5.heap.size w5 W->Ints W (aH z.2) z.1 from fun z hz W hW=>by
    rcases List.mem_cons.1 hz with rfl | hz
    · exact Ho.out W hW
    · exact Hc.out W hW _ hz)
   obtain ⟨F,hF⟩:∃ F,F7 x=F:=⟨_,rfl⟩;have hF0:F 0=[]:=by rw [<- hF];rfl
   rw [hF] at hsu hal' hle;clear hF;obtain ⟨tw,out,⟨oa,on,oc⟩,inn,⟨ia,iT,ic⟩,bn,⟨aa,an,ac⟩⟩:=x;obtain ⟨CY,VL⟩:∃ CY:List (List Int×SV),CY=(out,⟨oa,on,oc⟩)::inn:=⟨_,rfl⟩;unfold aH at d1 d2 d3 Ho Hi Ha;have hcy:kN ⟨tw,out,⟨oa,on,oc⟩,inn,⟨ia,iT,ic⟩,bn,⟨aa,an,ac⟩⟩=CY:=VL.symm;rw [hcy] at hsu hal' hsd HCm;simp only at d0 d1 d2 d3 Ho Hi Ha Hc hsd hinl hen hel;have hcl:CY.length=inn.length+1:=by rw [VL];rfl
   obtain ⟨_,_,e1,hi1,hi2,-⟩:=Hi.out w5 (bR w5);injection e1 with q1 q2 q3;subst q2;clear q1 q3 hi1 hi2;obtain ⟨_,_,e1,-,-,-⟩:=Ha.out w5 (bR w5);injection e1 with q1 q2 q3;subst q2;clear q1 q3;rw [hcl] at hal';rw [<- hal'] at hdn hdl hle;have HDn:=Lib.hid hdn;have Dz:=Lib.hid hen;have Fb:=Lib.hid hsu;have xJ:=Lib.hid hcl;have asC:=Lib.hid hsd;have Vl:=Lib.hid hle;have HF0:=Lib.hid hF0;have HCY:=Lib.hid VL;have HO:=Lib.hid ho;have HE:=Lib.hid ha;have HS:=Lib.hid hs;have Hb:=Lib.hid hb;have HD0:=Lib.hid d0;have HD3:=Lib.hid d3;replace d0:=fG Hb.out d0;replace d1:=fG Hb.out d1;replace d2:=fG Hb.out d2;replace d3:=fG Hb.out d3;have auf:b<wo.heap.size:=Nat.lt_of_lt_of_le hlb Hb.out.size;have hDE:D.length+(F (inn.length+1)).length<=60:=by omega
   have hEE:E.length+bn.length<=30:=by omega
   have q0:0<=(k:Int):=by omega
   have q1:(k:Int)<n:=by omega
   clear hdn hen hsu hcl hsd hle hF0 VL hcy hal' ho ha hs hb hR m1 k1 hdl hel Qs hM2;go_upto_region 11 with fail;refine bZ (gW (wo.heap.size) wo) (.run 5 0 0 (.run 5 6 31 (.call 5 2047 (.call 11 4095 (.take 12 8191 (.done)))))) (by kernel_rfl) (Below.drew (Below.refl _ _)) (by kernel_rfl) (by kernel_rfl) (Nat.le_of_ble_eq_true (by kernel_rfl)) ?_;intro cO QR ak aC hS
   iterate 10
    apply lK;exact ak;exact rfl;exact hS;exact rfl
    · intro _ hqc;go_simp;try rfl
    try simp only [pu]
   refine aT (i:=5) (aG ak rfl) (fun K hK=>?_);have aA:=Lib.hid hS;clear hS;refine aO (aV rfl) ?_;go_simp;refine hK.out _ _ (oM (by omega) aA.out _) (fun hS=>?_);clear hK K aA
   try simp only [pu]
   refine aT (i:=11) (aG ak rfl) (fun K hK=>?_);have aA:=Lib.hid hS;clear hS;refine aO (aV rfl) ?_;refine wI (.tmp 77) (.tmp 82) _ rfl (base:=wo.heap.size) OT OO OQ rfl (Own.lit _ _ _ _ kY [((out,⟨oa,on,oc⟩):List Int×SV)] _ 1 _ (by first | rfl | (simp;done)) rfl (by first | omega | (simp;omega) | (simp;done)) (dW (by omega)) rfl rfl) rfl (l2:=inn) ((Hi.out wo Hb.out).mono (bA (bD (bR wo)) _)) (by simp only [List.length_cons,List.length_nil];omega) (by simp only [List.length_cons,List.length_nil];omega) (by simp) ?_;intro v9 w9 DL wM asD;rw [List.singleton_append,<- HCY.out] at DL;obtain ⟨A9,c9,Qd,-⟩:=Own.mY DL;rw [xJ.out] at Qd;subst Qd;have HO9:=Lib.hid DL;have hS:gW wo.heap.size wo w9:=Below.grown (Below.alloc (Below.drew (Below.refl _ _)) (by simp) _) wM (by simp) (fun g hg=>by have h:=Option.some.inj hg;simp at h;omega);clear DL wM asD;clear aA;refine hK.out _ _ hS (fun _=>?_);clear hK K
   try simp only [pu]
   apply lK;exact ak;exact rfl;exact hS;exact rfl
   · intro _ hqc;go_simp;try rfl
   try simp only [pu]
   refine bM ?_;refine aC.down _ _ ?_;have hB:Below (wo.heap.size) wo _:=hS;clear hS aC ak;have Je:=Lib.hid (bT Hb.out hB);have ait:=Lib.hid (HO.out.keep hB);have aiu:=Lib.hid (HE.out.keep hB);have HA9:=Lib.hid (HO9.out.iW (b':=w5.heap.size) Hb.out.size);clear hB d0 d1 d2 d3 HO HE HO9;go_upto_block 2 with fail;go_wp2_with fail;go_loopw [10,14] (fun s u wr=>∃ j:Nat,j<=inn.length+1/\u=.int .i64 j/\(∃ A c,s=.slice A (D.length+(F j).length) c)/\Own wr w5.heap.size 3 1 dO s (D++F j)/\Own wr w5.heap.size 24 1 kY (.slice A9 (inn.length+1) c9) CY/\Own wr w5.heap.size 3 1 dO (.slice A2 E.length c2) E/\lH s (.slice A2 E.length c2)/\Below w5.heap.size w5 wr) (fun _ u _=>inn.length+1-(intOf u).toNat)
   case atStart => exact ⟨0,Nat.zero_le _,rfl,⟨A1,c1,by rw [HF0.out];rfl⟩,by rw [HF0.out,List.append_nil];exact ait.out,HA9.out,aiu.out,HS.out,Je.out⟩
   case round =>
    obtain ⟨j,hj,rfl,⟨A3,c3,rfl⟩,ho3,ha3,he3,hs3,hb3⟩:=hrel;obtain ⟨wj,rfl⟩:∃ wj:World,wj=wr:=⟨_,rfl⟩;have fE:=Lib.hid ho3;have ou:=Lib.hid ha3;have VN:=Lib.hid he3;have BN:=Lib.hid hs3;have HB3:=Lib.hid hb3;clear ho3 ha3 he3 hs3 hb3 ait aiu HA9 Je;by_cases hjl:j<inn.length+1
    ·have hjc:j<CY.length:=by rw [xJ.out];exact hjl
     obtain ⟨A',C',he,-,-,mW⟩:=ou.out.sl;injection he with e1 e2 e3;subst e1;clear e2 e3;obtain ⟨b3,o3,hA',hl3,e3⟩:=mW.cy hjc;subst hA';have hsu:=Fb.out j hjc;have hsd:=asC.out _ (List.getElem_mem hjc);have hcm:=HCm.out _ (List.getElem_mem hjc);have hlj:=Vl.out (j+1);generalize CY[j]=z at *;obtain ⟨zx,⟨za,zn,zc⟩⟩:=z;unfold aH at hcm;simp only at e3 hsu hsd hcm;obtain ⟨_,_,e1,-,-,-⟩:=hcm w5 (bR w5);injection e1 with q1' q2 q3';subst q2;clear q1' q3';have hlt1:(D++F j).length+zx.length<=60:=by
      have:=congrArg List.length hsu
      rw [List.length_append] at this ⊢;omega
     have asE:=Lib.hid hsu;have asF:=Lib.hid hsd;have aiv:=Lib.hid hcm;have He3:=Lib.hid e3;have q2:0<=(j:Int):=by omega
     have q3:(j:Int)<(inn.length:Int)+1:=by omega
     clear hsu hsd hcm mW hjc;go_upto_block 4 with fail;go_wp2_with fail;go_loopw [15] (fun u wr=>∃ m:Nat,m<=zx.length/\u=.int .i64 m/\Below wj.heap.size wj wr) (fun u _=>zx.length-(intOf u).toNat)
     case atStart => exact ⟨0,Nat.zero_le _,rfl,bR wj⟩
     case round =>
      obtain ⟨m,hm,rfl,hbm⟩:=hrel;obtain ⟨wm,rfl⟩:∃ wm:World,wm=wr:=⟨_,rfl⟩;have tK:=Lib.hid hbm;have oh:=Lib.hid (bT HB3.out hbm);have e3:=fG hbm He3.out;have aug:b3<wm.heap.size:=Nat.lt_of_lt_of_le hl3 hbm.size;clear hbm;by_cases hml:m<zx.length
      ·obtain ⟨A',C',he,-,-,hRz⟩:=aiv.out wm oh.out;injection he with e1 e2 e3;subst e1;clear e2 e3;obtain ⟨b4,o4,y8,hl4,e4⟩:=hRz.int hml;subst y8;obtain ⟨hs1,hw1⟩:=asF.out _ (List.getElem_mem hml);generalize zx[m]=d at *;have asG:=Lib.hid (fun W (hW:Below wm.heap.size wm W)=>show Calls Tryz.prog 33 #[.agg #[.slice An nn cn,.slice Aa al.length ca,.slice Af nf cf],.int .i64 d] W fun e w'=>e=.returned (.int .i64 tw)/\Below W.heap.size W w' from by
        have h:=zq.out d hw1 W (bT (bT dK.out oh.out) hW);rw [hs1] at h;exact h)
       have d0:=fG oh.out HD0.out;have hlbm:b<wm.heap.size:=Nat.lt_of_lt_of_le hlb oh.out.size;have X1:=DW.out.keep oh.out;have q4:0<=(m:Int):=by omega
       have q5:(m:Int)<zx.length:=by omega
       have htt:(tw != tw)=false:=by simp
       clear hs1 hw1 hRz
       try clear aI
       try clear aJ
       try clear aK
       try clear aP
       obtain ⟨aI,aJ,aK,aP,-,-,-⟩:=X1.bC;go_upto_region 18 with fail;refine bZ (Since wm) (.run 8 0 0 (.run 5 9 255 (.call 8 16383 (.take 14 32767 (.done))))) (by kernel_rfl) (bD (bR _)) (by kernel_rfl) (by kernel_rfl) (Nat.le_of_ble_eq_true (by kernel_rfl)) ?_;intro cO QR ak aC hS
       iterate 13
        apply bg;exact ak;exact rfl;exact hS;exact rfl
        · intro _ hqc;go_simp;try rfl
        try simp only [pu]
       refine aT (i:=8) (aG ak rfl) (fun K hK=>?_);have aA:=Lib.hid hS;clear hS;refine aO (aV rfl) ?_;go_simp;refine (asG.out _ aA.out).mono ?_;rintro e bH ⟨rfl,bJ⟩;have hS:Since wm bH:=bT (w:=wm) aA.out bJ;clear aA;refine hK.out _ _ hS (fun _=>?_);clear hK K
       try simp only [pu]
       apply bg;exact ak;exact rfl;exact hS;exact rfl
       · intro _ hqc;go_simp;try rfl
       try simp only [pu]
       refine bM ?_;refine aC.down _ _ ?_;have hB:Below wm.heap.size wm bH:=hS;clear hS aC ak;have Qu:=Lib.hid (bT tK.out hB);clear hB X1 aI aJ aK aP d0 e3 e4;go_wp2_with fail;go_roundw
       case rel => exact ⟨m+1,by omega,by go_num,Qu.out⟩
       case measure => simp [intOf];omega
      ·obtain rfl:m=zx.length:=by omega
       go_wp2_with
        (at_builtin
         refine jH _ rfl (.tmp 114) (.tmp 118) _ rfl (base:=w5.heap.size) pV nH pW rfl (fE.out.keep tK.out) rfl (l2:=zx) (aiv.out wm oh.out) (by have:=hlt1;omega) (by have:=hlt1;omega) oh.out.size ?_;intro v5 w6 gy hg5 oz;rw [List.append_assoc,<- asE.out] at gy;obtain ⟨A5,c5,hv5,-⟩:=Own.mY gy;rw [List.length_append] at hv5;subst hv5;have rX:=Lib.hid gy;have Qv:∀ g,(Value.slice A5 (D.length+(F (j+1)).length) c5).ownBlock=some g->(Value.slice A3 (D.length+(F j).length) c3).ownBlock=some g\/g=wm.heap.size:=fun g hg=>by
          rcases oz with h | h
          · exact .inl (h.symm.trans hg)
          · rw [hg] at h;exact .inr (Option.some.inj h)
         have H54:=Lib.hid (show lH (.slice A5 (D.length+(F (j+1)).length) c5) (.slice A2 E.length c2) from fun g hg e=>by
          rcases Qv g hg with h | h
          · exact BN.out g h e
          · have:=((VN.out.keep tK.out).lt g e).2;omega)
         have vY:=Lib.hid (Own.grown (ou.out.keep tK.out) hg5 (Own.apart (ou.out.keep tK.out) (fE.out.keep tK.out) (by decide)));have HE5:=Lib.hid (Own.grown (VN.out.keep tK.out) hg5 (fun g hg e=>BN.out g e.symm hg));have iL:=Lib.hid (bG oh.out hg5 (fun g hg=>((fE.out.keep tK.out).lt g hg).1));clear gy hg5 oz Qv)
       go_roundw
       case rel => exact ⟨j+1,by omega,by go_num,⟨A5,c5,rfl⟩,rX.out,vY.out,HE5.out,H54.out,iL.out⟩
       case measure => simp [intOf];omega
    ·obtain rfl:j=inn.length+1:=by omega
     have d3:=fG HB3.out HD3.out;have auh:b<wj.heap.size:=Nat.lt_of_lt_of_le hlb HB3.out.size;go_wp2_with
      (at_builtin
       refine jH _ rfl (.tmp 120) (.tmp 125) _ rfl (base:=w5.heap.size) pV nH pW rfl VN.out rfl (l2:=bn) (Ha.out wj HB3.out) (by have:=hEE;omega) (by have:=hEE;omega) HB3.out.size ?_;intro v5 w6 gy hg5 oz;rw [<- Dz.out] at gy;obtain ⟨A5,c5,hv5,-⟩:=Own.mY gy;rw [Dz.out,List.length_append] at hv5;subst hv5;have HE5:=Lib.hid gy;have Qv:∀ g,(Value.slice A5 (E.length+bn.length) c5).ownBlock=some g->(Value.slice A2 E.length c2).ownBlock=some g\/g=wj.heap.size:=fun g hg=>by
        rcases oz with h | h
        · exact .inl (h.symm.trans hg)
        · rw [hg] at h;exact .inr (Option.some.inj h)
       have H54:=Lib.hid (show lH (.slice A3 (D.length+(F (inn.length+1)).length) c3) (.slice A5 (E.length+bn.length) c5) from fun g hg e=>by
        rcases Qv g e with h | h
        · exact BN.out g hg h
        · have:=(fE.out.lt g hg).2;omega)
       have rX:=Lib.hid (Own.grown fE.out hg5 (fun g hg e=>BN.out g hg e.symm));have iL:=Lib.hid (bG HB3.out hg5 (fun g hg=>(VN.out.lt g hg).1));clear gy hg5 oz Qv)
     go_roundw
     case rel => exact ⟨k+1,by omega,by go_num,⟨A3,c3,by rw [HDn.out,List.length_append]⟩,⟨A5,c5,by rw [Dz.out,List.length_append]⟩,by rw [HDn.out];exact rX.out,HE5.out,H54.out,iL.out⟩
     case measure => simp [intOf];omega
  ·obtain rfl:k=n:=by omega
   have hkn:=HN.out;obtain ⟨D,hD⟩:∃ D,wG L k=D:=⟨_,rfl⟩;obtain ⟨E,hE⟩:∃ E,wH L k=E:=⟨_,rfl⟩;have g1:=HC.out.dN;have g2:=HC.out.norm;have g3:=HC.out.aM;have g4:=HC.out.alone;have Qs:=HC.out.N2;have g5:=HC.out.cnt;rw [hkn,hD] at g1 g2;rw [hkn,hE] at g3 g4;rw [<- rM.out] at Qs;have hM2:M<=nn:=by rw [<- g5,<- xP.out];exact List.length_filter_le _ _
   rw [hD] at ho ⊢;rw [hE] at ha ⊢;have ID:=ho.sl;have IE:=ha.sl;rw [g1] at ID ⊢;rw [g3] at IE ⊢;have aiw:=Lib.hid (fun W (hW:Below wo.heap.size wo W)=>show Calls Tryz.prog 34 #[.slice A1 N c1] W fun e w'=>(∃ A c,e=.returned (.slice A N c))/\Below W.heap.size W w' from
    (agA _ D W (by unfold Ints;rw [g1];exact ID.mono hW) (by omega)).mono (fun e w' ⟨A,c,h1,h2,_⟩=>⟨⟨A,c,by rw [h1,g2]⟩,h2⟩))
   have aix:=Lib.hid (fun W (hW:Below wo.heap.size wo W)=>show Calls Tryz.prog 34 #[.slice A2 M c2] W fun e w'=>(∃ A c,e=.returned (.slice A M c))/\Below W.heap.size W w' from
    (agA _ E W (by unfold Ints;rw [g3];exact IE.mono hW) (by omega)).mono (fun e w' ⟨A,c,h1,h2,_⟩=>⟨⟨A,c,by rw [h1,g4]⟩,h2⟩))
   have Jo:=Lib.hid g5;have iR:=Lib.hid hb;have X1:=DW.out.keep hb;have n1:((N:Int) != N)=false:=by simp
   have n2:((M:Int) != M)=false:=by simp
   have hw2:IntKind.i64.wrap (2*(al.length:Int))=(N:Int):=by rw [show 2*(al.length:Int)=N by omega];exact IntWalk.i64_in _ (by omega)
   clear ho ha hs hb ID IE g1 g2 g3 g4 g5 hD hE hkn Qs
   try clear aI
   try clear aJ
   try clear aK
   try clear aP
   obtain ⟨aI,aJ,aK,aP,-,-,-⟩:=X1.bC;go_upto_region 22 with fail;go_wp2_with fail;refine (aiw.out _ (bR wo)).mono ?_;rintro e w6 ⟨⟨A6,c6,rfl⟩,hb6⟩;have iL:=Lib.hid hb6;clear hb6 aiw;go_wp2_with fail;refine (aix.out _ iL.out).mono ?_;rintro e w7 ⟨⟨A7,c7,rfl⟩,hb7⟩;have zG:=Lib.hid (bT iR.out (bT iL.out hb7));clear hb7 aix iL X1 aI aJ aK aP;go_upto_block 6 with fail;clear n1 n2 hw2;go_wp2_with fail;go_loopw [16,17] (fun s u wr=>∃ i:Nat,i<=nn/\u=.int .i64 i/\s=.int .i64 (((p.nodes.take i).filter (fun n=>decide (iM p.ah n.id=0))).length:Nat)/\Below w7.heap.size w7 wr) (fun _ u _=>nn-(intOf u).toNat)
   case atStart => exact ⟨0,Nat.zero_le _,rfl,rfl,bR w7⟩
   case round =>
    obtain ⟨i,hi,rfl,rfl,hbi⟩:=hrel;obtain ⟨wi,rfl⟩:∃ wi:World,wi=wr:=⟨_,rfl⟩;have HBi:=Lib.hid (bT (bT dK.out zG.out) hbi);have Hbi:=Lib.hid hbi;have X1:=DW.out.keep (bT zG.out hbi);clear hbi;by_cases hil:i<nn
    ·have hip:i<p.nodes.length:=by rw [xP.out];exact hil
     obtain ⟨b,o,hA,hlb,c0,-,-⟩:=(HRn.out.mono HBi.out).nd hip;subst hA;have hst:=asA (f:=fun n=>decide (iM p.ah n.id=0)) hip;have hle:=cnt_le (l:=p.nodes) (f:=fun n=>decide (iM p.ah n.id=0)) i;rw [Jo.out] at hle;obtain ⟨q,hq⟩:∃ q,((p.nodes.take i).filter (fun n=>decide (iM p.ah n.id=0))).length=q:=⟨_,rfl⟩;rw [hq] at hst hle ⊢;have abv:=Lib.hid (fun W (hW:Below wi.heap.size wi W)=>HD4.out p.nodes[i].id W (bT HBi.out hW));generalize p.nodes[i]=nd at *;have hq1:IntKind.i64.wrap ((q:Int)+1)=((q+1:Nat):Int):=by rw [show ((q+1:Nat):Int)=(q:Int)+1 by omega];exact IntWalk.i64_in _ (by omega)
     have r0:0<=(i:Int):=by omega
     have r1:(i:Int)<nn:=by omega
     have Hst:=Lib.hid hst;obtain ⟨dg,hdg⟩:∃ dg,iM p.ah nd.id=dg:=⟨_,rfl⟩;rw [hdg] at abv Hst;clear hq hdg hst
     try clear aI
     try clear aJ
     try clear aK
     try clear aP
     obtain ⟨aI,aJ,aK,aP,-,-,-⟩:=X1.bC;go_upto_region 28 with fail
     cases hz:(dg == 0)
     case false =>
      have HZ:=Lib.hid (show ((p.nodes.take (i+1)).filter (fun n=>decide (iM p.ah n.id=0))).length=q by
       have h:=Hst.out;rw [if_neg (by simpa using hz)] at h;exact h)
      refine bZ (Since wi) (.run 7 0 0 (.call 7 255 (.take 8 511 (.done)))) (by kernel_rfl) (bD (bR _)) (by kernel_rfl) (by kernel_rfl) (Nat.le_of_ble_eq_true (by kernel_rfl)) ?_;intro cO QR ak aC hS
      iterate 7
       apply bg;exact ak;exact rfl;exact hS;exact rfl
       · intro _ hqc;go_simp;try rfl
       try simp only [pu]
      refine aT (i:=7) (aG ak rfl) (fun K hK=>?_);have aA:=Lib.hid hS;clear hS;refine aO (aV rfl) ?_;go_simp;refine (abv.out _ aA.out).mono ?_;rintro e bH ⟨rfl,bJ⟩;have hS:Since wi bH:=bT (w:=wi) aA.out bJ;clear aA;refine hK.out _ _ hS (fun _=>?_);clear hK K
      try simp only [pu]
      apply bg;exact ak;exact rfl;exact hS;exact rfl
      · intro _ hqc;go_simp;try rfl
      try simp only [pu]
      refine bM ?_;refine aC.down _ _ ?_;have hB:Below wi.heap.size wi bH:=hS;clear hS aC ak;have Qu:=Lib.hid (bT Hbi.out hB);clear hB X1 aI aJ aK aP c0;go_wp2_with fail;go_roundw
      case rel => exact ⟨i+1,by omega,by go_num,by rw [HZ.out],Qu.out⟩
      case measure => simp [intOf];omega
     case true =>
      have HZ:=Lib.hid (show ((p.nodes.take (i+1)).filter (fun n=>decide (iM p.ah n.id=0))).length=q+1 by
       have h:=Hst.out;rw [if_pos (by simpa using hz)] at h;exact h)
      refine bZ (Since wi) (.run 7 0 0 (.call 7 255 (.take 8 511 (.done)))) (by kernel_rfl) (bD (bR _)) (by kernel_rfl) (by kernel_rfl) (Nat.le_of_ble_eq_true (by kernel_rfl)) ?_;intro cO QR ak aC hS
      iterate 7
       apply bg;exact ak;exact rfl;exact hS;exact rfl
       · intro _ hqc;go_simp;try rfl
       try simp only [pu]
      refine aT (i:=7) (aG ak rfl) (fun K hK=>?_);have aA:=Lib.hid hS;clear hS;refine aO (aV rfl) ?_;go_simp;refine (abv.out _ aA.out).mono ?_;rintro e bH ⟨rfl,bJ⟩;have hS:Since wi bH:=bT (w:=wi) aA.out bJ;clear aA;refine hK.out _ _ hS (fun _=>?_);clear hK K
      try simp only [pu]
      apply bg;exact ak;exact rfl;exact hS;exact rfl
      · intro _ hqc;go_simp;try rfl
      try simp only [pu]
      refine bM ?_;refine aC.down _ _ ?_;have hB:Below wi.heap.size wi bH:=hS;clear hS aC ak;have Qu:=Lib.hid (bT Hbi.out hB);clear hB X1 aI aJ aK aP c0;go_wp2_with fail;go_roundw
      case rel => exact ⟨i+1,by omega,by go_num,by rw [HZ.out];congr 1,Qu.out⟩
      case measure => simp [intOf];omega
    ·obtain rfl:i=nn:=by omega
     rw [List.take_of_length_le (show p.nodes.length<=i by rw [xP.out];exact Nat.le_refl _),Jo.out]
     try clear aI
     try clear aJ
     try clear aK
     try clear aP
     obtain ⟨aI,aJ,aK,aP,-,-,-⟩:=X1.bC;go_wp2_with fail;refine (HAw.out _).mono ?_;rintro e w8 ⟨rfl,hb8⟩;have HB8:=Lib.hid (bT HBi.out hb8);clear hb8;go_wp2_with fail;go_ret;exact ⟨rfl,HB8.out⟩
end Go.Proofs.YtialfdomhoojiaaGreat
