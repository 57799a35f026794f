import Derived.Test.YtpempeioeiaijaaGreatJ01
import Derived.Test.YtpempeioeiaijaaGreatGB
set_option linter.unusedSimpArgs false
set_option linter.unusedVariables false
namespace Go.Proofs.YtpempeioeiaijaaGreat
open Go.RowKit

set_option maxRecDepth 100000 in
set_option maxHeartbeats 8000000 in
theorem RSame14_true (v u:Value) (p:Pl) (w:World) (h:PlV w v p) (h':PlV w u p):Calls Tryz.prog 19 #[v,u] w fun e w'=>e=.returned (.bool true)∧Below w.heap.size w w':=by
 obtain ⟨_,_,_,al,rfl,hpa,⟨An,cn,rfl,hn1,hn2,hRn⟩,⟨⟨Aa,ca,rfl,ha1,ha2,hRa⟩,hV⟩,⟨Af,cf,rfl,hf1,hf2,hRf⟩⟩:=h
 obtain ⟨_,_,_,bl,rfl,hpb,⟨Bn,dn,rfl,-,-,hSn⟩,⟨⟨Ba,da,rfl,-,-,hSa⟩,hU⟩,⟨Bf,df,rfl,-,-,hSf⟩⟩:=h'
 have hll:bl.length=al.length:=by have:=congrArg List.length (hpa.symm.trans hpb);simpa using this.symm
 have HAt:=Lib.hid (fun k (h1:k<al.length) (h2:k<bl.length)=>show al[k].1=bl[k].1 from by
  have e1:(al.map (·.1))[k]'(by simpa using h1)=al[k].1:=by rw [List.getElem_map]
  have e2:(bl.map (·.1))[k]'(by simpa using h2)=bl[k].1:=by rw [List.getElem_map]
  rw [← e1,← e2]
  congr 1
  exact hpa.symm.trans hpb)
 have HRn:=Lib.hid hRn;have HRa:=Lib.hid hRa;have HRf:=Lib.hid hRf;have HSn:=Lib.hid hSn;have HSa:=Lib.hid hSa;have HSf:=Lib.hid hSf;have HV:=Lib.hid hV;have HU:=Lib.hid hU;have HLl:=Lib.hid hll
 unfold maxLen at hn2 ha2 hf2
 rw [hll]
 obtain ⟨L,hL⟩:∃ L,p.nodes=L:=⟨_,rfl⟩
 obtain ⟨F,hF⟩:∃ F,p.faces=F:=⟨_,rfl⟩
 rw [hL] at hn1 HRn HSn ⊢
 rw [hF] at hf1 HRf HSf ⊢
 have hb1:L.length≤9223372036854775807:=by omega
 have hb2:al.length≤9223372036854775807:=by omega
 have hb3:F.length≤9223372036854775807:=by omega
 clear hRn hRa hRf hSn hSa hSf hV hU hpa hpb hll hL hF hn1 hn2 ha1 ha2 hf1 hf2
 go_enter Tryz.func19,Tryz.ntmps19
 go_upto_region 1 with fail
 obtain ⟨W1,hW⟩:∃ W:World,W=(w.alloc (.cells #[.slice An L.length cn,.slice Aa al.length ca,.slice Af F.length cf] 34)).alloc (.cells #[.slice Bn L.length dn,.slice Ba al.length da,.slice Bf F.length df] 34):=⟨_,rfl⟩
 have X2:Blk W1 w.heap.size 34 #[.slice An L.length cn,.slice Aa al.length ca,.slice Af F.length cf]:=by rw [hW];exact (Blk.made rfl _ _).alloc _
 have X3:Blk W1 (w.heap.size+1) 34 #[.slice Bn L.length dn,.slice Ba al.length da,.slice Bf F.length df]:=by rw [hW];exact Blk.made (by simp) _ _
 have HB1:=Lib.hid (show Below w.heap.size w W1 by rw [hW];exact bA (bA (bR w) _) _)
 rw [← hW]
 clear hW
 have HX2:=Lib.hid X2;have HX3:=Lib.hid X3
 obtain ⟨X2l,X2a,X2b,X2c,-,-,-⟩:=X2.facts3
 obtain ⟨X3l,X3a,X3b,X3c,-,-,-⟩:=X3.facts3
 go_wp2_with fail
 go_loopw [5] (fun u wr=>∃ k:Nat,k≤L.length∧u=.int .i64 k∧Below W1.heap.size W1 wr) (fun u _=>L.length-(intOf u).toNat)
 case atStart => exact ⟨0,Nat.zero_le _,rfl,bR W1⟩
 case round =>
  obtain ⟨k,hk,rfl,hb⟩:=hrel
  obtain ⟨wo,rfl⟩:∃ wo:World,wo=wr:=⟨_,rfl⟩
  have Hb:=Lib.hid hb
  clear hb X2 X2l X2a X2b X2c X3 X3l X3a X3b X3c
  have X2:=HX2.out.keep Hb.out;have X3:=HX3.out.keep Hb.out
  try clear X2l
  try clear X2a
  try clear X2b
  try clear X2c
  obtain ⟨X2l,X2a,X2b,X2c,-,-,-⟩:=X2.facts3
  try clear X3l
  try clear X3a
  try clear X3b
  try clear X3c
  obtain ⟨X3l,X3a,X3b,X3c,-,-,-⟩:=X3.facts3
  by_cases hlt:k<L.length
  ·
   obtain ⟨b,o,rfl,hlb,c0,c1,c2⟩:=(HRn.out.mono (bT HB1.out Hb.out)).nd hlt
   obtain ⟨b',o',rfl,hlb',d0,d1,d2⟩:=(HSn.out.mono (bT HB1.out Hb.out)).nd hlt
   generalize L[k]=n at *
   have hE:=run_neq_nd n n
   have ht:(!decide (n=n))=false:=by simp
   rw [ht] at hE
   clear ht
   have k1:(k:Int)<L.length:=by omega
   have k2:0≤(k:Int):=by omega
   go_upto_region 6 with fail
   refine rg_start (Since wo) (.run 11 0 0 (.done)) (by kernel_rfl) (bD (bR _)) (by kernel_rfl) (by kernel_rfl) (Nat.le_of_ble_eq_true (by kernel_rfl)) ?_
   intro opsR QR Hops HQrg hS
   iterate 11
    apply rg_p;exact Hops;exact rfl;exact hS;exact rfl
    · intro _ hqc;go_simp;try rfl
    try simp only [pu]
   refine rg_done ?_
   refine HQrg.down _ _ ?_
   have hB:Below wo.heap.size wo wo.drew:=hS
   clear hS HQrg Hops
   have HB4:=Lib.hid (bT Hb.out hB)
   clear hB X2 X2l X2a X2b X2c X3 X3l X3a X3b X3c c0 c1 c2 d0 d1 d2 hE
   go_wp2_with fail
   go_roundw
   case rel => exact ⟨k+1,by omega,by go_num,HB4.out⟩
   case measure => simp [intOf];omega
  ·
   have k1:¬ (k:Int)<L.length:=by omega
   clear hlt
   go_wp2_with fail
   go_loopw [6] (fun u wr=>∃ k:Nat,k≤al.length∧u=.int .i64 k∧Below W1.heap.size W1 wr) (fun u _=>al.length-(intOf u).toNat)
   case atStart => exact ⟨0,Nat.zero_le _,rfl,Hb.out⟩
   case round =>
    obtain ⟨j,hj,rfl,hb⟩:=hrel
    obtain ⟨wi,rfl⟩:∃ wi:World,wi=wr:=⟨_,rfl⟩
    have Hb2:=Lib.hid hb
    clear hb X2 X2l X2a X2b X2c X3 X3l X3a X3b X3c
    have X2:=HX2.out.keep Hb2.out;have X3:=HX3.out.keep Hb2.out
    try clear X2l
    try clear X2a
    try clear X2b
    try clear X2c
    obtain ⟨X2l,X2a,X2b,X2c,-,-,-⟩:=X2.facts3
    try clear X3l
    try clear X3a
    try clear X3b
    try clear X3c
    obtain ⟨X3l,X3a,X3b,X3c,-,-,-⟩:=X3.facts3
    by_cases hlt:j<al.length
    ·
     have hlt':j<bl.length:=by rw [HLl.out];exact hlt
     obtain ⟨b,o,rfl,hlb,c0,c1,c2,c3,c4,c5⟩:=(HRa.out.mono (bT HB1.out Hb2.out)).ar hlt
     obtain ⟨b',o',rfl,hlb',d0,d1,d2,d3,d4,d5⟩:=(HSa.out.mono (bT HB1.out Hb2.out)).ar hlt'
     have v1:=HV.out j hlt;have v2:=HU.out j hlt'
     obtain ⟨Av,cv,hva,-⟩:=id v1
     obtain ⟨Au,cu,hua,-⟩:=id v2
     have hh:=HAt.out j hlt hlt'
     rw [← hh] at d0 d1 d2 d4 d5 hua v2
     rw [hva] at c3 v1
     rw [hua] at d3 v2
     generalize al[j].1=a at *
     have HS:=Lib.hid (fun W (hW:Below w.heap.size w W)=>show Calls Tryz.prog 40 #[arV a (.slice Av a.via.length cv),arV a (.slice Au a.via.length cu)] W fun e w'=>e=.returned (.bool true)∧Below W.heap.size W w' from by
      have t:=SameArc_spec a a _ _ W (v1.mono hW) (v2.mono hW)
      rw [decide_eq_true rfl] at t
      exact t)
     unfold arV at HS
     have k1:(j:Int)<al.length:=by omega
     have k2:0≤(j:Int):=by omega
     clear v1 v2 hva hua hh
     go_upto_region 11 with fail
     refine rg_start (Since wi) (.run 10 0 0 (.call 10 2047 (.take 11 4095 (.done)))) (by kernel_rfl) (bD (bR _)) (by kernel_rfl) (by kernel_rfl) (Nat.le_of_ble_eq_true (by kernel_rfl)) ?_
     intro opsR QR Hops HQrg hS
     iterate 10
      apply rg_p;exact Hops;exact rfl;exact hS;exact rfl
      · intro _ hqc;go_simp;try rfl
      try simp only [pu]
     refine rg_call (i:=10) (get_of Hops rfl) (fun K hK=>?_)
     have HSrg:=Lib.hid hS;clear hS
     refine rg_run (wanted_plain rfl) ?_
     go_simp
     refine (HS.out _ (bT (bT HB1.out Hb2.out) (bD (bR wi)))).mono ?_
     rintro e wr1 ⟨rfl,hbr1⟩
     have hS:Since wi wr1:=bT (w:=wi) HSrg.out hbr1
     clear HSrg
     refine hK.out _ _ hS (fun _=>?_)
     clear hK K
     try simp only [pu]
     apply rg_p;exact Hops;exact rfl;exact hS;exact rfl
     · intro _ hqc;go_simp;try rfl
     try simp only [pu]
     refine rg_done ?_
     refine HQrg.down _ _ ?_
     have hB:Below wi.heap.size wi wr1:=hS
     clear hS HQrg Hops
     have HB4:=Lib.hid (bT Hb2.out hB)
     clear hB X2 X2l X2a X2b X2c X3 X3l X3a X3b X3c c0 c1 c2 c3 c4 c5 d0 d1 d2 d3 d4 d5
     go_wp2_with fail
     go_roundw
     case rel => exact ⟨j+1,by omega,by go_num,HB4.out⟩
     case measure => simp [intOf];omega
    ·
     have k3:¬ (j:Int)<al.length:=by omega
     clear hlt
     go_wp2_with fail
     go_loopw [7] (fun u wr=>∃ k:Nat,k≤F.length∧u=.int .i64 k∧Below W1.heap.size W1 wr) (fun u _=>F.length-(intOf u).toNat)
     case atStart => exact ⟨0,Nat.zero_le _,rfl,Hb2.out⟩
     case round =>
      obtain ⟨i,hi,rfl,hb⟩:=hrel
      obtain ⟨wf,rfl⟩:∃ wf:World,wf=wr:=⟨_,rfl⟩
      have Hb3:=Lib.hid hb
      clear hb X2 X2l X2a X2b X2c X3 X3l X3a X3b X3c
      have X2:=HX2.out.keep Hb3.out;have X3:=HX3.out.keep Hb3.out
      try clear X2l
      try clear X2a
      try clear X2b
      try clear X2c
      obtain ⟨X2l,X2a,X2b,X2c,-,-,-⟩:=X2.facts3
      try clear X3l
      try clear X3a
      try clear X3b
      try clear X3c
      obtain ⟨X3l,X3a,X3b,X3c,-,-,-⟩:=X3.facts3
      by_cases hlt:i<F.length
      ·
       obtain ⟨b,o,rfl,hlb,c0⟩:=(HRf.out.mono (bT HB1.out Hb3.out)).int hlt
       obtain ⟨b',o',rfl,hlb',d0⟩:=(HSf.out.mono (bT HB1.out Hb3.out)).int hlt
       generalize F[i]=x at *
       have k4:(i:Int)<F.length:=by omega
       have k5:0≤(i:Int):=by omega
       go_upto_region 16 with fail
       refine rg_start (Since wf) (.run 11 0 0 (.done)) (by kernel_rfl) (bD (bR _)) (by kernel_rfl) (by kernel_rfl) (Nat.le_of_ble_eq_true (by kernel_rfl)) ?_
       intro opsR QR Hops HQrg hS
       iterate 11
        apply rg_p;exact Hops;exact rfl;exact hS;exact rfl
        · intro _ hqc;go_simp;try rfl
        try simp only [pu]
       refine rg_done ?_
       refine HQrg.down _ _ ?_
       have hB:Below wf.heap.size wf wf.drew:=hS
       clear hS HQrg Hops
       have HB4:=Lib.hid (bT Hb3.out hB)
       clear hB X2 X2l X2a X2b X2c X3 X3l X3a X3b X3c c0 d0
       go_wp2_with fail
       go_roundw
       case rel => exact ⟨i+1,by omega,by go_num,HB4.out⟩
       case measure => simp [intOf];omega
      ·
       have k4:¬ (i:Int)<F.length:=by omega
       go_wp2_with fail
       go_ret
       exact ⟨rfl,bT HB1.out Hb3.out⟩
end Go.Proofs.YtpempeioeiaijaaGreat
