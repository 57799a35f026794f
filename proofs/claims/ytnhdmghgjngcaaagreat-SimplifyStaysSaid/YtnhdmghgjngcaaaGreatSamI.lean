import Derived.Test.YtnhdmghgjngcaaaGreatJ01
set_option linter.unusedSimpArgs false
set_option linter.unusedVariables false
namespace Go.Proofs.YtnhdmghgjngcaaaGreat
open Go.RowKit

set_option maxHeartbeats 400000 in
theorem SameInts_spec (v u:Value) (l m:List Int) (w:World) (h:Ints w v l) (h':Ints w u m) :
  Calls Tryz.prog 12 #[v,u] w fun e w'=>e=.returned (.bool (decide (l=m)))∧Below w.heap.size w w':=by
 obtain ⟨A,c,rfl,hn,hc,hR⟩:=h
 obtain ⟨A',c',rfl,hn',hc',hR'⟩:=h'
 unfold maxLen at hc hc'
 by_cases hlen:l.length=m.length
 case neg =>
  have hf:=Lib.hid (decide_eq_false (fun e:l=m=>hlen (congrArg List.length e)))
  have hl1:((l.length:Int) != (m.length:Int))=true:=by rw [bne_iff_ne];omega
  have hl2:(l.length != m.length)=true:=by rw [bne_iff_ne];omega
  clear hlen
  go_enter Tryz.func12,Tryz.ntmps12
  go_wp2_with fail
  go_ret
  exact ⟨ret_bool hf.out.symm,bR w⟩
 case pos =>
 have hl1:((l.length:Int) != (m.length:Int))=false:=by simp [hlen]
 have hl2:(l.length != m.length)=false:=by simp [hlen]
 have Hlen:=Lib.hid hlen;clear hlen
 go_enter Tryz.func12,Tryz.ntmps12
 go_wp2_with fail
 go_loopw [5] (fun i wr=>∃ k:Nat,k≤l.length∧i=.int .i64 k∧Below w.heap.size w wr∧∀ j (hj:j<l.length) (hj':j<m.length),j<k→l[j]=m[j]) (fun i _=>l.length-(intOf i).toNat)
 case atStart => exact ⟨0,Nat.zero_le _,rfl,bR w,fun j _ _ h=>by omega⟩
 case round =>
  obtain ⟨k,hk,rfl,hb,hno⟩:=hrel
  have Hb:=Lib.hid hb
  have Hno:=Lib.hid hno
  clear hb hno hl1 hl2
  by_cases hlt:k<l.length
  ·
   have hlt':k<m.length:=by have:=Hlen.out;omega
   obtain ⟨b,o,rfl,hlb,c0⟩:=(hR.mono Hb.out).int hlt
   obtain ⟨b',o',rfl,hlb',c0q⟩:=(hR'.mono Hb.out).int hlt'
   have HR:=Lib.hid hR;have HR':=Lib.hid hR';clear hR hR'
   have q1:0≤(k:Int):=by omega
   have q2:(k:Int)<l.length:=by omega
   have q3:(k:Int)<m.length:=by omega
   by_cases he:l[k]=m[k]
   ·
    have hd:(l[k] != m[k])=false:=by simpa using he
    have He:=Lib.hid he;clear he
    go_upto_region 6 with fail
    refine rg_start (Since wr) (.run 9 0 0 (.done)) (by kernel_rfl) (bD (bR _)) (by kernel_rfl) (by kernel_rfl) (Nat.le_of_ble_eq_true (by kernel_rfl)) ?_
    intro opsR QR Hops HQrg hS
    iterate 9
     apply rg_p;exact Hops;exact rfl;exact hS;exact rfl
     · intro _ hqc;go_simp;try rfl
     try simp only [pu]
    refine rg_done ?_
    refine HQrg.down _ _ ?_
    have hB:Below wr.heap.size wr wr.drew:=hS
    clear hS HQrg Hops
    have Bw:Below w.heap.size w wr.drew:=bT Hb.out hB
    clear hB
    go_wp2_with fail
    go_roundw
    case rel => exact ⟨k+1,by omega,by go_num,Bw,fun j hj hj' hjk=>if e:j<k then Hno.out j hj hj' e else by
      have:j=k:=by omega
      subst this;exact He.out⟩
    case measure => simp [intOf];omega
   ·
    have hd:(l[k] != m[k])=true:=by simpa using he
    have He:=Lib.hid he;clear he
    go_upto_region 6 with fail
    refine rg_start (Since wr) (.run 9 0 0 (.done)) (by kernel_rfl) (bD (bR _)) (by kernel_rfl) (by kernel_rfl) (Nat.le_of_ble_eq_true (by kernel_rfl)) ?_
    intro opsR QR Hops HQrg hS
    iterate 9
     apply rg_p;exact Hops;exact rfl;exact hS;exact rfl
     · intro _ hqc;go_simp;try rfl
     try simp only [pu]
    refine rg_done ?_
    refine HQrg.down _ _ ?_
    have hB:Below wr.heap.size wr wr.drew:=hS
    clear hS HQrg Hops
    have Bw:Below w.heap.size w wr.drew:=bT Hb.out hB
    clear hB
    go_wp2_with fail
    go_ret
    exact ⟨ret_bool (decide_eq_false (ne_of_at k hlt hlt' He.out)).symm,Bw⟩
  ·
   have hf:=Lib.hid (decide_eq_true (eq_of_all Hlen.out fun j hj=>Hno.out j hj (by have:=Hlen.out;omega) (by omega)))
   go_wp2_with fail
   go_ret
   exact ⟨ret_bool hf.out.symm,Hb.out⟩
end Go.Proofs.YtnhdmghgjngcaaaGreat
