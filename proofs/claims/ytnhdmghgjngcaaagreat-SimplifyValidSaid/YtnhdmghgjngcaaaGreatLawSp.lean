import Derived.Test.YtnhdmghgjngcaaaGreatGB
import Derived.Test.YtnhdmghgjngcaaaGreatJ01
set_option linter.unusedSimpArgs false
set_option linter.unusedVariables false
namespace Go.Proofs.YtnhdmghgjngcaaaGreat
open Go.RowKit

theorem sub_hit {α:Type} {x:α} {K R:List α} (h:(x::K).Sublist (x::R)):K.Sublist R:=List.cons_sublist_cons.1 h
theorem sub_miss {α:Type} {x y:α} {K R:List α} (h:(x::K).Sublist (y::R)) (he:¬ y=x):(x::K).Sublist R:=by
 cases h with
 | cons _ h=>exact h
 | cons_cons _ h=>exact absurd rfl he

set_option maxRecDepth 100000 in
set_option maxHeartbeats 2000000 in
theorem Part34_spec (vk vl:Value) (K L:List Pt) (w:World) (hk:Pts w vk K) (hl:Pts w vl L) (hs:K.Sublist L) :
  Calls Tryz.prog 13 #[vk,vl] w fun e w'=>e=.returned (.bool true)∧Below w.heap.size w w':=by
 obtain ⟨A0,c0,rfl,hk1,hk2,hRk⟩:=hk
 obtain ⟨B0,d0,rfl,hl1,hl2,hRl⟩:=hl
 have HK:=Lib.hid (show Pts w (.slice A0 K.length c0) K from ⟨A0,c0,rfl,hk1,hk2,hRk⟩)
 have HRl:=Lib.hid hRl
 have HS:=Lib.hid hs
 unfold maxLen at hl2
 clear hRk hRl hs hk1 hk2
 go_enter Tryz.func13,Tryz.ntmps13
 go_wp2_with fail
 go_loopw [0,5] (fun u v wr=>∃ (i:Nat) (Q:List Pt) (A:Option Addr) (c:Nat),i≤L.length∧v=.int .i64 i∧u=.slice A Q.length c∧Hid (Pts w (.slice A Q.length c) Q)∧Hid (Q.Sublist (L.drop i))∧Below w.heap.size w wr) (fun _ v _=>L.length-(intOf v).toNat)
 case atStart => exact ⟨0,K,A0,c0,Nat.zero_le _,rfl,rfl,HK,Lib.hid (by simpa using HS.out),bR w⟩
 case round =>
  obtain ⟨i,Q,A,c,hi,rfl,rfl,HQ,HSu,hb⟩:=hrel
  obtain ⟨wo,rfl⟩:∃ wo:World,wo=wr:=⟨_,rfl⟩
  have Hb:=Lib.hid hb
  clear hb HK HS
  by_cases hlt:i<L.length
  · cases Q with
   | nil =>
    simp only [List.length_nil]
    go_wp2_with fail
    go_ret
    exact ⟨rfl,Hb.out⟩
   | cons x K1 =>
    obtain ⟨A',c',he,hq1,hq2,hRq⟩:=HQ.out
    injection he with e1 _ e3
    subst e1 e3
    obtain ⟨b,o,rfl,hlb,l0,l1⟩:=(HRl.out.mono Hb.out).pt hlt
    obtain ⟨b',o',rfl,hlb',q0,q1⟩:=(hRq.mono Hb.out).pt (k:=0) (by simp)
    have hdr:L.drop i=L[i]::L.drop (i+1):=List.drop_eq_getElem_cons hlt
    have hsu:=HSu.out
    rw [hdr] at hsu
    rw [Nat.zero_mul,Nat.add_zero] at q0 q1
    simp only [List.getElem_cons_zero] at q0 q1
    have hE:=run_eql_pt L[i] x
    have hsf:=Sl.suf_ ptC_len (l:=x::K1) HQ.out 0 (by simp)
    have hcut:=fun W=>run_cut (P:=Tryz.prog) Tryz.underlying39 (e:=36) (size:=2) (fun _=>by kernel_rfl) (some ⟨b',o',none⟩) (x::K1).length c 1 (by simp) 1 rfl W
    have hK1:(x::K1).length-1=K1.length:=by simp
    rw [Nat.zero_add,List.drop_one,List.tail_cons,hK1] at hsf
    rw [hK1] at hcut
    obtain ⟨nk,hnk⟩:∃ nk,(x::K1).length=nk:=⟨_,rfl⟩
    have hn1:0<nk:=by rw [← hnk];simp
    have hn2:nk≤9223372036854775807:=by rw [← hnk];exact Nat.le_trans hq1 hq2
    have hn3:K1.length=nk-1:=by rw [← hnk];simp
    rw [hnk] at hcut ⊢
    obtain ⟨A2,hA2⟩:∃ A2,cutA (some ⟨b',o',none⟩) c 1 2=A2:=⟨_,rfl⟩
    obtain ⟨c2,hc2⟩:∃ c2,c-1=c2:=⟨_,rfl⟩
    rw [hA2,hc2] at hcut hsf
    have HSf:=Lib.hid (show Pts w (.slice A2 K1.length c2) K1 from hsf)
    have k1:(i:Int)<L.length:=by omega
    have k2:0≤(i:Int):=by omega
    have k3:(0:Int)<nk:=by omega
    have HQ2:=HQ
    by_cases hxy:L[i]=x
    ·
     have HS2:=Lib.hid (show K1.Sublist (L.drop (i+1)) from by rw [hxy] at hsu;exact sub_hit hsu)
     rw [decide_eq_true hxy] at hE
     generalize L[i]=y at *
     clear hsu hdr hxy hnk hn3 HQ HQ2 HSu hsf hA2 hc2 hRq hq1 hq2 hK1
     go_upto_region 4 with fail
     refine rg_start (Since wo) (.run 8 0 0 (.done)) (by kernel_rfl) (bD (bR _)) (by kernel_rfl) (by kernel_rfl) (Nat.le_of_ble_eq_true (by kernel_rfl)) ?_
     intro opsR QR Hops HQrg hS
     iterate 8
      apply rg_p;exact Hops;exact rfl;exact hS;exact rfl
      · intro _ hqc;go_simp;try rfl
      try simp only [pu]
     refine rg_done ?_
     refine HQrg.down _ _ ?_
     have hB:Below wo.heap.size wo wo.drew:=hS
     clear hS HQrg Hops
     have HB4:=Lib.hid (bT Hb.out hB)
     clear hB l0 l1 q0 q1 hE
     go_wp2_with fail
     go_roundw
     case rel => exact ⟨i+1,K1,A2,c2,by omega,by go_num,rfl,HSf,HS2,HB4.out⟩
     case measure => simp [intOf];omega
    ·
     have HS2:=Lib.hid (show (x::K1).Sublist (L.drop (i+1)) from sub_miss hsu hxy)
     have HQ3:=Lib.hid (show Pts w (.slice (some ⟨b',o',none⟩) nk c) (x::K1) from by rw [← hnk];exact HQ.out)
     rw [decide_eq_false hxy] at hE
     have HNk:=Lib.hid hnk
     generalize L[i]=y at *
     clear hsu hdr hxy hnk hn3 HQ HQ2 HSu hsf hA2 hc2 hRq hq1 hq2 hK1 hcut
     go_upto_region 4 with fail
     refine rg_start (Since wo) (.run 8 0 0 (.done)) (by kernel_rfl) (bD (bR _)) (by kernel_rfl) (by kernel_rfl) (Nat.le_of_ble_eq_true (by kernel_rfl)) ?_
     intro opsR QR Hops HQrg hS
     iterate 8
      apply rg_p;exact Hops;exact rfl;exact hS;exact rfl
      · intro _ hqc;go_simp;try rfl
      try simp only [pu]
     refine rg_done ?_
     refine HQrg.down _ _ ?_
     have hB:Below wo.heap.size wo wo.drew:=hS
     clear hS HQrg Hops
     have HB4:=Lib.hid (bT Hb.out hB)
     clear hB l0 l1 q0 q1 hE
     go_wp2_with fail
     go_roundw
     case rel => exact ⟨i+1,x::K1,some ⟨b',o',none⟩,c,by omega,by go_num,by rw [HNk.out],by rw [HNk.out];exact HQ3,HS2,HB4.out⟩
     case measure => simp [intOf];omega
  ·
   have hil:i=L.length:=by omega
   have hn:Q=[]:=by
    have h:=HSu.out
    rw [List.drop_eq_nil_of_le (by omega)] at h
    exact List.sublist_nil.1 h
   subst hn
   simp only [List.length_nil]
   have k1:¬ (i:Int)<L.length:=by omega
   clear hlt hil
   go_wp2_with fail
   go_ret
   exact ⟨rfl,Hb.out⟩
end Go.Proofs.YtnhdmghgjngcaaaGreat
