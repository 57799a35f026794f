import Derived.Test.YtnhdmghgjngcaaaGreatGC
set_option linter.unusedSimpArgs false
set_option linter.unusedVariables false
namespace Go.Proofs.YtnhdmghgjngcaaaGreat
open Go.RowKit

def fewS (p:Pl) (M:Nat):Bool:=decide (p.nodes.length≤M∧p.arcs.length≤M∧p.faces.length≤M∧(p.arcs.flatMap (·.via)).length≤M)

set_option maxRecDepth 100000 in
set_option maxHeartbeats 1000000 in
theorem Few_spec (v:Value) (p:Pl) (M:Nat) (w:World) (h:PlV w v p) (hM:M≤1000000) :
  Calls Tryz.prog 7 #[v,.int .i64 M] w fun e w'=>e=.returned (.bool (fewS p M))∧Below w.heap.size w w':=by
 obtain ⟨_,_,_,al,rfl,hpa,⟨An,cn,rfl,hn1,hn2,-⟩,⟨⟨Aa,ca,rfl,ha1,ha2,hRa⟩,hV⟩,⟨Af,cf,rfl,hf1,hf2,-⟩⟩:=h
 unfold maxLen at hn2 ha2 hf2
 have hS:fewS p M=decide (p.nodes.length≤M∧al.length≤M∧p.faces.length≤M∧(al.flatMap (fun a=>a.1.via)).length≤M):=by
  rw [fewS,hpa,List.flatMap_map,List.length_map]
 rw [hS]
 clear hS hpa
 generalize p.nodes.length=nn at *
 generalize p.faces.length=nf at *
 have HV:=Lib.hid hV;clear hV
 have HRa:=Lib.hid hRa;clear hRa
 obtain ⟨q,hq⟩:∃ q,decide (nn≤M∧al.length≤M∧nf≤M∧(al.flatMap (fun a=>a.1.via)).length≤M)=q:=⟨_,rfl⟩
 rw [hq]
 have Hq:=Lib.hid hq;clear hq
 by_cases hc:nn≤M∧al.length≤M∧nf≤M
 case neg =>
  have hf:=Lib.hid (decide_eq_false (fun e:nn≤M∧al.length≤M∧nf≤M∧(al.flatMap (fun a=>a.1.via)).length≤M=>hc ⟨e.1,e.2.1,e.2.2.1⟩))
  have Hc:=Lib.hid hc;clear hc
  by_cases h1:M<nn
  ·
   go_enter Tryz.func7,Tryz.ntmps7
   go_wp2_with fail
   go_ret
   exact ⟨ret_bool (hf.out.symm.trans Hq.out),bA (bR w) _⟩
  ·
   by_cases h2:M<al.length
   ·
    go_enter Tryz.func7,Tryz.ntmps7
    go_wp2_with fail
    go_ret
    exact ⟨ret_bool (hf.out.symm.trans Hq.out),bA (bR w) _⟩
   ·
    have h3:M<nf:=by
     rcases Nat.lt_or_ge M nf with h | h
     · exact h
     · exact absurd ⟨by omega,by omega,h⟩ Hc.out
    go_enter Tryz.func7,Tryz.ntmps7
    go_wp2_with fail
    go_ret
    exact ⟨ret_bool (hf.out.symm.trans Hq.out),bA (bR w) _⟩
 case pos =>
  obtain ⟨h1,h2,h3⟩:=hc
  go_enter Tryz.func7,Tryz.ntmps7
  go_wp2_with fail
  obtain ⟨W0,hW0⟩:∃ W0:World,W0=w.alloc (.cells #[.slice An nn cn,.slice Aa al.length ca,.slice Af nf cf] 26):=⟨_,rfl⟩
  have X1:Blk W0 w.heap.size 26 #[.slice An nn cn,.slice Aa al.length ca,.slice Af nf cf]:=by rw [hW0];exact Blk.made rfl _ _
  have Bw0:Below w.heap.size w W0:=by rw [hW0];exact bA (bR w) _
  rw [← hW0]
  have HX0:=Lib.hid X1
  clear hW0 X1
  go_loopw [5,6] (fun s i wr=>∃ (k:Nat) (n:Int),k≤al.length∧i=.int .i64 k∧s=.int .i64 n∧0≤n∧n≤2*M+1∧Below W0.heap.size W0 wr∧((n≤M∧(((al.take k).flatMap (fun a=>a.1.via)).length:Int)=n)∨((M:Int)<n∧(M:Int)<((al.take k).flatMap (fun a=>a.1.via)).length))) (fun _ i _=>al.length-(intOf i).toNat)
  case atStart => exact ⟨0,0,Nat.zero_le _,rfl,rfl,by omega,by omega,bR W0,.inl ⟨by omega,by simp⟩⟩
  case round =>
   obtain ⟨k,n,hk,rfl,rfl,hn0,hnm,hb,hinv⟩:=hrel
   have Hb:=Lib.hid hb
   have Hinv:=Lib.hid hinv
   have X1:Blk wr w.heap.size 26 #[.slice An nn cn,.slice Aa al.length ca,.slice Af nf cf]:=HX0.out.keep hb
   clear hb hinv
   obtain ⟨X1l,X1a,X1b,X1c,-,-,-⟩:=X1.facts3
   by_cases hlt:k<al.length
   ·
    by_cases hnM:n≤M
    ·
     obtain ⟨b,o,rfl,hlb,c0,c1,c2,c3,c4,c5⟩:=(HRa.out.mono (bT Bw0 Hb.out)).ar hlt
     obtain ⟨Av,cv,hv,hvc,hvm,-⟩:=HV.out k hlt
     rw [hv] at c3
     clear hv
     unfold maxLen at hvm
     have ht:((al.take (k+1)).flatMap (fun a=>a.1.via)).length=((al.take k).flatMap (fun a=>a.1.via)).length+al[k].1.via.length:=by
      rw [List.take_succ_eq_append_getElem hlt,List.flatMap_append,List.length_append];simp
     have Ht:=Lib.hid ht;clear ht
     go_wp2_with fail
     all_goals
      go_roundw
      case rel =>
       have ht:=Ht.out
       have hi:=Hinv.out
       refine ⟨k+1,_,by omega,by go_num,rfl,by omega,by omega,Hb.out,?_⟩
       rw [ht]
       omega
      case measure => simp [intOf];omega
    ·
     have hf:=Lib.hid (decide_eq_false (fun e:nn≤M∧al.length≤M∧nf≤M∧(al.flatMap (fun a=>a.1.via)).length≤M=>by
      have h4:=e.2.2.2
      have h5:=flat_take_le al (fun a=>a.1.via) k
      have:=Hinv.out
      omega))
     go_wp2_with fail
     go_ret
     exact ⟨ret_bool (hf.out.symm.trans Hq.out),bT Bw0 Hb.out⟩
   ·
    have hE:al.take k=al:=List.take_of_length_le (by omega)
    have hi:=Hinv.out
    rw [hE] at hi
    replace Hinv:=Lib.hid hi
    clear hi hE
    by_cases hnM:n≤M
    ·
     have hf:=Lib.hid (decide_eq_true (show nn≤M∧al.length≤M∧nf≤M∧(al.flatMap (fun a=>a.1.via)).length≤M from ⟨h1,h2,h3,by have:=Hinv.out;omega⟩))
     go_wp2_with fail
     go_ret
     exact ⟨ret_bool (hf.out.symm.trans Hq.out),bT Bw0 Hb.out⟩
    ·
     have hf:=Lib.hid (decide_eq_false (fun e:nn≤M∧al.length≤M∧nf≤M∧(al.flatMap (fun a=>a.1.via)).length≤M=>by
      have h4:=e.2.2.2
      have:=Hinv.out
      omega))
     go_wp2_with fail
     go_ret
     exact ⟨ret_bool (hf.out.symm.trans Hq.out),bT Bw0 Hb.out⟩
end Go.Proofs.YtnhdmghgjngcaaaGreat
namespace Go.Proofs.YtnhdmghgjngcaaaGreat
open Go.RowKit

def dupS (l:List Pt):Bool:=(List.range l.length).any fun i=>(l.take i).any fun p=>decide (l[i]? = some p)
theorem dup_yes (l:List Pt) (i k:Nat) (hk:k<i) (hi:i<l.length) (h:l[i]=l[k]'(by omega)):dupS l=true:=by
 unfold dupS
 refine List.any_eq_true.2 ⟨i,List.mem_range.2 hi,List.any_eq_true.2 ⟨l[k]'(by omega),?_,?_⟩⟩
 ·
  rw [List.mem_iff_getElem]
  exact ⟨k,by rw [List.length_take];omega,by simp⟩
 · rw [List.getElem?_eq_getElem hi,h];simp
theorem dup_no (l:List Pt) (h:∀ i k (hk:k<i) (hi:i<l.length),¬ l[i]=l[k]'(by omega)):dupS l=false:=by
 unfold dupS
 rw [List.any_eq_false]
 intro i hi
 have hi:=List.mem_range.1 hi
 simp only [Bool.not_eq_true]
 rw [List.any_eq_false]
 intro p hp
 obtain ⟨k,hk,rfl⟩:=List.mem_iff_getElem.1 hp
 rw [List.length_take] at hk
 have:=h i k (by omega) hi
 rw [List.getElem?_eq_getElem hi]
 simpa using this

end Go.Proofs.YtnhdmghgjngcaaaGreat
namespace Go.Proofs.YtnhdmghgjngcaaaGreat
open Go.RowKit

def rangesS (p:Pl):Bool:=!((p.nodes.map (·.id)++p.arcs.map (·.id)++p.faces).any idBad) && (pointsS p).all ptOk

end Go.Proofs.YtnhdmghgjngcaaaGreat
