import Derived.Test.YtpempeioeiaijaaGreatJ01
set_option linter.unusedSimpArgs false
set_option linter.unusedVariables false
set_option maxRecDepth 100000
set_option maxHeartbeats 8000000
namespace Go.Proofs.YtpempeioeiaijaaGreat
open Go.RowKit Tryz
theorem ayD (v u:Value) (p:Pl) (w:World) (h:D6 w v p) (h':D6 w u p):Calls prog 19 #[v,u] w fun e w'=>e=.returned (.bool true)/\AU w w':=by
 obtain ⟨_,_,_,al,rfl,hpa,⟨An,cn,rfl,hn1,hn2,hRn⟩,⟨⟨Aa,ca,rfl,ha1,ha2,FT⟩,hV⟩,⟨Af,cf,rfl,hf1,hf2,hRf⟩⟩:=h;obtain ⟨_,_,_,bl,rfl,hpb,⟨Bn,dn,rfl,-,-,hSn⟩,⟨⟨Ba,da,rfl,-,-,hSa⟩,hU⟩,⟨Bf,df,rfl,-,-,hSf⟩⟩:=h';have hll:bl.length=al.length:=by have:=congrArg List.length (hpa.symm.trans hpb);simpa using this.symm
 have HAt:=AB (fun k (h1:k<al.length) (h2:k<bl.length)=>show al[k].1=bl[k].1 from by
  have e1:(al.map (·.1))[k]'(by simpa using h1)=al[k].1:=by rw [Iu]
  have e2:(bl.map (·.1))[k]'(by simpa using h2)=bl[k].1:=by rw [Iu]
  rw [<- e1,<- e2];congr 1;exact hpa.symm.trans hpb)
 obtain ⟨HRn,Ij,HRf,nC,HSa,jm,HV,HU,Jj⟩:=yV hRn FT hRf hSn hSa hSf hV hU hll;unfold maxLen at hn2 ha2 hf2;rw [hll];obtain ⟨L,hL⟩:=BI p.nodes;obtain ⟨F,hF⟩:=BI p.faces;rw [hL] at hn1 HRn nC ⊢;rw [hF] at hf1 HRf jm ⊢;have hb1:L.length<=9223372036854775807:=AA
 have hb2:al.length<=9223372036854775807:=AA
 have hb3:F.length<=9223372036854775807:=AA
 clear hRn FT hRf hSn hSa hSf hV hU hpa hpb hll hL hF hn1 hn2 ha1 ha2 hf1 hf2;go_enter func19,ntmps19;go_upto_region 1 with fail;obtain ⟨W1,hW⟩:∃ W:World,W=(w.alloc (.cells #[.slice An L.length cn,.slice Aa al.length ca,.slice Af F.length cf] 34)).alloc (.cells #[.slice Bn L.length dn,.slice Ba al.length da,.slice Bf F.length df] 34):=⟨_,rfl⟩;have X2:AO W1 w.heap.size 34 #[.slice An L.length cn,.slice Aa al.length ca,.slice Af F.length cf]:=by rw [hW];exact (AO.made rfl _ _).alloc _
 have X3:AO W1 (w.heap.size+1) 34 #[.slice Bn L.length dn,.slice Ba al.length da,.slice Bf F.length df]:=by rw [hW];exact AO.made Ah _ _
 have HB1:=AB (show AU w W1 by rw [hW];exact bA (bA (bR w) _) _);rw [<- hW];clear hW;have DC:=AB X2;have EY:=AB X3;obtain ⟨Bh,Bq,Bv,CS,-⟩:=X2.Az;obtain ⟨Dk,EI,EN,Gv,-⟩:=X3.Az;go_wp2_with fail;go_loopw [5] (fun u wr=>∃ k:Nat,k<=L.length/\u=.int .i64 k/\AU W1 wr) (fun u _=>L.length-(intOf u).toNat)
 case atStart => exact ⟨0,BX _,rfl,bR W1⟩
 case round =>
  obtain ⟨k,hk,rfl,hb⟩:=hrel;obtain ⟨wo,rfl⟩:=BR wr;have Hb:=AB hb;clear hb X2 Bh Bq Bv CS X3 Dk EI EN Gv;have X2:=DC.1.keep Hb.1;have X3:=EY.1.keep Hb.1
  try clear Bh Bq Bv CS
  obtain ⟨Bh,Bq,Bv,CS,-⟩:=X2.Az
  try clear Dk EI EN Gv
  obtain ⟨Dk,EI,EN,Gv,-⟩:=X3.Az;by_cases hlt:k<L.length
  ·obtain ⟨b,o,rfl,hlb,c0,c1,c2⟩:=(HRn.1.mono (bT HB1.1 Hb.1)).nd hlt;obtain ⟨b',o',rfl,VF,d0,d1,d2⟩:=(nC.1.mono (bT HB1.1 Hb.1)).nd hlt;generalize L[k]=n at *;have hE:=ao7 n n;have ht:(!decide (n=n))=false:=by simp
   rw [ht] at hE;clear ht;have k1:(k:Int)<L.length:=AA
   have k2:0<=(k:Int):=AA
   go_upto_region 6 with fail;refine D9 (wo) (.run 11 0 0 (.done)) fun CQ QR Ae Aj hS=>?_
   iterate 11 refine Ak ?_
   refine D5 ?_;clear hS Aj Ae;intro hB;have HB4:=AB (bT Hb.1 hB);clear hB X2 Bh Bq Bv CS X3 Dk EI EN Gv c0 c1 c2 d0 d1 d2 hE;go_wp2;go_roundw
   case rel => exact ⟨k+1,AA,BG,HB4.1⟩
   case measure => exact BH
  ·have k1:¬ (k:Int)<L.length:=AA
   clear hlt;go_wp2_with fail;go_loopw [6] (fun u wr=>∃ k:Nat,k<=al.length/\u=.int .i64 k/\AU W1 wr) (fun u _=>al.length-(intOf u).toNat)
   case atStart => exact ⟨0,BX _,rfl,Hb.1⟩
   case round =>
    obtain ⟨j,hj,rfl,hb⟩:=hrel;obtain ⟨wi,rfl⟩:=BR wr;have Hb2:=AB hb;clear hb X2 Bh Bq Bv CS X3 Dk EI EN Gv;have X2:=DC.1.keep Hb2.1;have X3:=EY.1.keep Hb2.1
    try clear Bh Bq Bv CS
    obtain ⟨Bh,Bq,Bv,CS,-⟩:=X2.Az
    try clear Dk EI EN Gv
    obtain ⟨Dk,EI,EN,Gv,-⟩:=X3.Az;by_cases hlt:j<al.length
    ·have hlt':j<bl.length:=by rw [Jj.1];exact hlt
     obtain ⟨b,o,rfl,hlb,c0,c1,c2,c3,c4,c5⟩:=(Ij.1.mono (bT HB1.1 Hb2.1)).ar hlt;obtain ⟨b',o',rfl,VF,d0,d1,d2,d3,d4,d5⟩:=(HSa.1.mono (bT HB1.1 Hb2.1)).ar hlt';have v1:=HV.1 j hlt;have v2:=HU.1 j hlt';obtain ⟨Av,cv,hva,-⟩:=id v1;obtain ⟨Au,cu,hua,-⟩:=id v2;have hh:=HAt.1 j hlt hlt';rw [<- hh] at d0 d1 d2 d4 d5 hua v2;rw [hva] at c3 v1;rw [hua] at d3 v2;generalize al[j].1=a at *;have HS:=AB (fun W (hW:AU w W)=>show Calls prog 40 #[Uj a (.slice Av a.via.length cv),Uj a (.slice Au a.via.length cu)] W fun e w'=>e=.returned (.bool true)/\AU W w' from by
      have t:=aor a a _ _ W (v1.mono hW) (v2.mono hW);rw [JB rfl] at t;exact t)
     unfold Uj at HS;have k1:(j:Int)<al.length:=AA
     have k2:0<=(j:Int):=AA
     clear v1 v2 hva hua hh;go_upto_region 11 with fail;refine D9 (wi) (.run 10 0 0 (.call 10 2047 (.take 11 4095 (.done)))) fun CQ QR Ae Aj hS=>?_
     iterate 10 refine Ak ?_
     refine II (HS.1 _ (bT (bT HB1.1 Hb2.1) (bD (bR wi)))) ?_;clear hS;intro BZ BU hS;refine Ak ?_;refine D5 ?_;clear hS Aj Ae;intro hB;have HB4:=AB (bT Hb2.1 hB);clear hB X2 Bh Bq Bv CS X3 Dk EI EN Gv c0 c1 c2 c3 c4 c5 d0 d1 d2 d3 d4 d5;go_wp2;go_roundw
     case rel => exact ⟨j+1,AA,BG,HB4.1⟩
     case measure => exact BH
    ·have k3:¬ (j:Int)<al.length:=AA
     clear hlt;go_wp2_with fail;go_loopw [7] (fun u wr=>∃ k:Nat,k<=F.length/\u=.int .i64 k/\AU W1 wr) (fun u _=>F.length-(intOf u).toNat)
     case atStart => exact ⟨0,BX _,rfl,Hb2.1⟩
     case round =>
      obtain ⟨i,hi,rfl,hb⟩:=hrel;obtain ⟨wf,rfl⟩:=BR wr;have Hb3:=AB hb;clear hb X2 Bh Bq Bv CS X3 Dk EI EN Gv;have X2:=DC.1.keep Hb3.1;have X3:=EY.1.keep Hb3.1
      try clear Bh Bq Bv CS
      obtain ⟨Bh,Bq,Bv,CS,-⟩:=X2.Az
      try clear Dk EI EN Gv
      obtain ⟨Dk,EI,EN,Gv,-⟩:=X3.Az;by_cases hlt:i<F.length
      ·obtain ⟨b,o,rfl,hlb,c0⟩:=(HRf.1.mono (bT HB1.1 Hb3.1)).int hlt;obtain ⟨b',o',rfl,VF,d0⟩:=(jm.1.mono (bT HB1.1 Hb3.1)).int hlt;generalize F[i]=x at *;have k4:(i:Int)<F.length:=AA
       have k5:0<=(i:Int):=AA
       go_upto_region 16 with fail;refine D9 (wf) (.run 11 0 0 (.done)) fun CQ QR Ae Aj hS=>?_
       iterate 11 refine Ak ?_
       refine D5 ?_;clear hS Aj Ae;intro hB;have HB4:=AB (bT Hb3.1 hB);clear hB X2 Bh Bq Bv CS X3 Dk EI EN Gv c0 d0;go_wp2;go_roundw
       case rel => exact ⟨i+1,AA,BG,HB4.1⟩
       case measure => exact BH
      ·have k4:¬ (i:Int)<F.length:=AA
       go_wp2;go_ret;exact ⟨rfl,bT HB1.1 Hb3.1⟩
