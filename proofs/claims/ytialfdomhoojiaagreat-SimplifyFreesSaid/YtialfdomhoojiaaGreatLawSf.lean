import Derived.Test.YtialfdomhoojiaaGreatJ29
import Derived.Test.YtialfdomhoojiaaGreatGD
set_option linter.unusedSimpArgs false
set_option linter.unusedVariables false
namespace Go.Proofs.YtialfdomhoojiaaGreat
open Go.RowKit
def aaZ:Prop:=∀ W,Calls Tryz.prog 37 #[] W fun e w'=>e=.returned (.bool true)/\Below W.heap.size W w'
theorem jV.aiZ {p:Pl} (h:Dy p 60=true):jV p/\(p.au.flatMap (·.via)).length<=1048576:=by
 unfold Dy at h;have h:=of_decide_eq_true h;refine ⟨⟨by omega,by omega,fun a ha=>?_⟩,by omega⟩;obtain ⟨s,t,e⟩:=List.append_of_mem ha;have:=h.2.2.2
 rw [e] at this;simp only [List.flatMap_append,List.flatMap_cons,List.length_append] at this;omega
set_option maxRecDepth 100000 in
set_option maxHeartbeats 8000000 in
theorem ai0 (haw:aaZ) (v:Value) (p:Pl) (arc i:Int) (w:World) (h:dh w v p) :
  Calls Tryz.prog 11 #[v,.int .i64 arc,.int .i64 i] w fun e w'=>e=.returned (.bool true)/\Below w.heap.size w w':=by
 have HAw:=Lib.hid haw;have TG:=Lib.hid (fun W (hW:Below w.heap.size w W)=>ab5 v p 60 W (h.mono hW) (by omega));have pI:=Lib.hid (fun (hm:jV p) id j W (hW:Below w.heap.size w W)=>Iq v p id j W (h.mono hW) hm);have HF2:=Lib.hid (fun (hm:jV p) hf id j W (hW:Below w.heap.size w W)=>aiY v p id j W (h.mono hW) hm hf);obtain ⟨_,_,_,al,rfl,-,⟨An,cn,rfl,-⟩,⟨⟨Aa,ca,rfl,ha1,ha2,fO⟩,hV⟩,⟨Af,cf,rfl,-⟩⟩:=h;have iV:=Lib.hid fO;have HV:=Lib.hid hV;unfold maxLen at ha2;generalize p.nodes.length=nn at *;generalize p.faces.length=nf at *;obtain ⟨few,hfew⟩:∃ few,Dy p 60=few:=⟨_,rfl⟩;rw [hfew] at TG;have ai1:=Lib.hid hfew;clear fO hV hfew haw;go_enter Tryz.func11,Tryz.ntmps11;go_upto_region 1 with fail;obtain ⟨W1,hW⟩:∃ W:World,W=w.alloc (.cells #[.slice An nn cn,.slice Aa al.length ca,.slice Af nf cf] 26):=⟨_,rfl⟩;have X3:ah W1 w.heap.size 26 #[.slice An nn cn,.slice Aa al.length ca,.slice Af nf cf]:=by rw [hW];exact ah.made rfl _ _
 have HB1:=Lib.hid (show Below w.heap.size w W1 by rw [hW];exact bA (bR w) _);rw [<- hW];clear hW;have dP:=Lib.hid X3;obtain ⟨aW,aX,aY,dK,-,-,-⟩:=X3.aJ;go_wp2_with fail;refine (TG.out _ HB1.out).mono ?_;rintro e w2 ⟨rfl,hb2⟩;have HB2:=Lib.hid (bT HB1.out hb2);have qX:=Lib.hid (dP.out.keep hb2);clear hb2 X3 aW aX aY dK dP HB1 TG
 cases few
 case false =>
  go_wp2_with fail;refine (HAw.out _).mono ?_;rintro e w3 ⟨rfl,hb3⟩;have HB3:=Lib.hid (bT HB2.out hb3);clear hb3;go_wp2_with fail;go_ret;exact ⟨rfl,HB3.out⟩
 have hm:=jV.aiZ ai1.out;have wZ:=Lib.hid (pI.out hm.1);have HG2:=Lib.hid (HF2.out hm.1 hm.2);clear pI HF2 hm;go_wp2_with fail;go_loopw [7] (fun u wr=>∃ k:Nat,k<=al.length/\u=.int .i64 k/\Below w2.heap.size w2 wr) (fun u _=>al.length-(intOf u).toNat)
 case atStart => exact ⟨0,Nat.zero_le _,rfl,bR w2⟩
 case round =>
  obtain ⟨k,hk,rfl,hb⟩:=hrel;obtain ⟨wo,rfl⟩:∃ wo:World,wo=wr:=⟨_,rfl⟩;have Hb:=Lib.hid hb;clear hb;have X3:=qX.out.keep Hb.out;by_cases hlt:k<al.length
  ·have k1:(k:Int)<al.length:=by omega
   have k2:0<=(k:Int):=by omega
   obtain ⟨n,hn⟩:∃ n,al[k].1.via.length=n:=⟨_,rfl⟩;obtain ⟨Av,cv,hva,hv1,hv2,-⟩:=HV.out k hlt;unfold maxLen at hv2;rw [hn] at hva hv1;have Hva:=Lib.hid hva;have hv3:=Nat.le_trans hv1 hv2;clear hv1 hv2 hva hn
   try clear aW
   try clear aX
   try clear aY
   try clear dK
   obtain ⟨aW,aX,aY,dK,-,-,-⟩:=X3.aJ;go_wp2_with fail;go_loopw [8] (fun u wr=>∃ j:Nat,j<=n/\u=.int .i64 j/\Below w2.heap.size w2 wr) (fun u _=>n-(intOf u).toNat)
   case atStart => exact ⟨0,Nat.zero_le _,rfl,Hb.out⟩
   case round =>
    obtain ⟨j,hj,rfl,hbj⟩:=hrel;obtain ⟨wi,rfl⟩:∃ wi:World,wi=wr:=⟨_,rfl⟩;have sQ:=Lib.hid hbj;clear hbj X3 aW aX aY dK;have X3:=qX.out.keep sQ.out;obtain ⟨b,o,rfl,hlb,c0,c1,c2,c3,c4,c5⟩:=(iV.out.mono (bT HB2.out sQ.out)).ar hlt;rw [Hva.out] at c3;generalize al[k].1.id=aid at *;have TI:=Lib.hid (wZ.out aid j);have TJ:=Lib.hid (HG2.out aid j);generalize oM p aid j=fr at *;have kX:=Lib.hid (bT HB2.out sQ.out)
    try clear aW
    try clear aX
    try clear aY
    try clear dK
    obtain ⟨aW,aX,aY,dK,-,-,-⟩:=X3.aJ;by_cases hjl:j<n
    ·have j1:(j:Int)<n:=by omega
     go_upto_region 10 with fail;refine dN (Since wi) (.run 3 0 0 (.run 3 4 7 (.call 3 127 (.call 7 255 (.take 8 511 (.done)))))) (by kernel_rfl) (bD (bR _)) (by kernel_rfl) (by kernel_rfl) (Nat.le_of_ble_eq_true (by kernel_rfl)) ?_;intro dO QR aj aA hS
     iterate 6
      apply aH;exact aj;exact rfl;exact hS;exact rfl
      · intro _ hqc;go_simp;try rfl
      try simp only [pu]
     refine aS (i:=3) (aB aj rfl) (fun K hK=>?_);have ak:=Lib.hid hS;clear hS;refine aG (aN rfl) ?_;go_simp;refine (TI.out _ (bT kX.out (bD (bR wi)))).mono ?_;rintro e bY ⟨rfl,dB⟩;have hS:Since wi bY:=bT (w:=wi) ak.out dB;clear ak;refine hK.out _ _ hS (fun _=>?_);clear hK K
     try simp only [pu]
     refine aS (i:=7) (aB aj rfl) (fun K hK=>?_);have ak:=Lib.hid hS;clear hS;refine aG (aN rfl) ?_;go_simp;refine (TJ.out _ (bT kX.out (bT (bD (bR wi)) dB))).mono ?_;rintro e wr2 ⟨rfl,fG⟩;have hS:Since wi wr2:=bT (w:=wi) ak.out fG;clear ak;refine hK.out _ _ hS (fun _=>?_);clear hK K
     try simp only [pu]
     apply aH;exact aj;exact rfl;exact hS;exact rfl
     · intro _ hqc;go_simp;try rfl
     try simp only [pu]
     refine dF ?_;refine aA.down _ _ ?_;have hB:Below wi.heap.size wi wr2:=hS;clear hS aA aj;have HB4:=Lib.hid (bT sQ.out hB);clear hB X3 aW aX aY dK c0 c1 c2 c3 c4 c5;go_wp2_with fail;go_roundw
     case rel => exact ⟨j+1,by omega,by go_num,HB4.out⟩
     case measure => simp [intOf];omega
    ·have j1:¬ (j:Int)<n:=by omega
     go_wp2_with fail;go_roundw
     case rel => exact ⟨k+1,by omega,by go_num,sQ.out⟩
     case measure => simp [intOf];omega
  ·have k1:¬ (k:Int)<al.length:=by omega
   have TI:=Lib.hid (wZ.out arc i);have TJ:=Lib.hid (HG2.out arc i);generalize oM p arc i=fr at *;have kX:=Lib.hid (bT HB2.out Hb.out)
   try clear aW
   try clear aX
   try clear aY
   try clear dK
   obtain ⟨aW,aX,aY,dK,-,-,-⟩:=X3.aJ;go_upto_region 12 with fail;refine dN (Since wo) (.run 3 0 0 (.run 3 4 7 (.call 3 127 (.call 7 255 (.take 8 511 (.take 9 1023 (.call 10 2047 (.take 11 4095 (.take 12 8191 (.done)))))))))) (by kernel_rfl) (bD (bR _)) (by kernel_rfl) (by kernel_rfl) (Nat.le_of_ble_eq_true (by kernel_rfl)) ?_;intro dO QR aj aA hS
   iterate 6
    apply aH;exact aj;exact rfl;exact hS;exact rfl
    · intro _ hqc;go_simp;try rfl
    try simp only [pu]
   refine aS (i:=3) (aB aj rfl) (fun K hK=>?_);have ak:=Lib.hid hS;clear hS;refine aG (aN rfl) ?_;go_simp;refine (TI.out _ (bT kX.out (bD (bR wo)))).mono ?_;rintro e bY ⟨rfl,dB⟩;have hS:Since wo bY:=bT (w:=wo) ak.out dB;clear ak;refine hK.out _ _ hS (fun _=>?_);clear hK K
   try simp only [pu]
   refine aS (i:=7) (aB aj rfl) (fun K hK=>?_);have ak:=Lib.hid hS;clear hS;refine aG (aN rfl) ?_;go_simp;refine (TJ.out _ (bT kX.out (bT (bD (bR wo)) dB))).mono ?_;rintro e wr2 ⟨rfl,fG⟩;have hS:Since wo wr2:=bT (w:=wo) ak.out fG;clear ak;refine hK.out _ _ hS (fun _=>?_);clear hK K
   try simp only [pu]
   iterate 2
    apply aH;exact aj;exact rfl;exact hS;exact rfl
    · intro _ hqc;go_simp;try rfl
    try simp only [pu]
   refine aS (i:=10) (aB aj rfl) (fun K hK=>?_);have ak:=Lib.hid hS;clear hS;refine aG (ig rfl (aB aj rfl) rfl rfl) ?_;go_simp;refine (HAw.out _).mono ?_;rintro e wr3 ⟨rfl,jG⟩;have hS:Since wo wr3:=bT (w:=wo) ak.out jG;clear ak;refine hK.out _ _ hS (fun _=>?_);clear hK K
   try simp only [pu]
   iterate 2
    apply aH;exact aj;exact rfl;exact hS;exact rfl
    · intro _ hqc;go_simp;try rfl
    try simp only [pu]
   refine dF ?_;refine aA.down _ _ ?_;have hB:Below wo.heap.size wo wr3:=hS;clear hS aA aj;have HB4:=Lib.hid (bT kX.out hB);clear hB;go_wp2_with fail;go_ret;exact ⟨rfl,HB4.out⟩
end Go.Proofs.YtialfdomhoojiaaGreat
