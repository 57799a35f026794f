import Derived.Test.YtnhdmghgjngcaaaGreatJ30
import Derived.Test.YtnhdmghgjngcaaaGreatJ32
import Derived.Test.YtnhdmghgjngcaaaGreatLawSf
import Derived.Test.YtnhdmghgjngcaaaGreatJ39
import Derived.Test.YtnhdmghgjngcaaaGreatLawSp
import Derived.Test.YtnhdmghgjngcaaaGreatSamI
import Derived.Test.YtnhdmghgjngcaaaGreatGB
set_option linter.unusedSimpArgs false
set_option linter.unusedVariables false
namespace Go.Proofs.YtnhdmghgjngcaaaGreat
open Go.RowKit

theorem ThinOf.rows {p q:Pl} {al bl:List (Ar×Value)} (h:ThinOf p q) (e1:p.arcs=al.map (·.1)) (e2:q.arcs=bl.map (·.1)) :
  bl.length=al.length∧∀ k (h1:k<al.length) (h2:k<bl.length),bl[k].1.id=al[k].1.id∧bl[k].1.fr=al[k].1.fr∧bl[k].1.dst=al[k].1.dst∧bl[k].1.left=al[k].1.left∧bl[k].1.right=al[k].1.right∧bl[k].1.via.Sublist al[k].1.via:=by
 obtain ⟨pn,pa,pf⟩:=p
 obtain ⟨qn,qa,qf⟩:=q
 simp only at e1 e2
 subst e1 e2
 have hl:=h.num
 simp only [List.length_map] at hl
 refine ⟨hl,fun k h1 h2=>?_⟩
 have h9:=h.arcs k (by simpa using h2) (by simpa using h1)
 simpa only [List.getElem_map] using h9

set_option maxRecDepth 100000 in
set_option maxHeartbeats 8000000 in
theorem SimplifyValid_spec (v:Value) (p:Pl) (tol:Int) (w:World) (h:PlV w v p) (hw:∀ a∈p.arcs,wfI a.id) :
  Calls Tryz.prog 3 #[v,.int .i64 tol] w fun e w'=>e=.returned (.bool true)∧Below w.heap.size w w':=by
 have HAw:=Lib.hid awake34_spec
 have HFw:=Lib.hid (fun W (hW:Below w.heap.size w W)=>Few_spec v p 60 W (h.mono hW) (by omega))
 have HCk:=Lib.hid (fun W (hW:Below w.heap.size w W)=>RegCheck_spec v p W (h.mono hW))
 have HS1:=Lib.hid (fun hm hf W (hW:Below w.heap.size w W)=>Simplify34_spec v p tol W (h.mono hW) hm hf hw)
 obtain ⟨_,_,_,al,rfl,hpa,⟨An,cn,rfl,hn1,hn2,hRn⟩,⟨⟨Aa,ca,rfl,ha1,ha2,hRa⟩,hV⟩,⟨Af,cf,rfl,hf1,hf2,hRf⟩⟩:=h
 have HRn:=Lib.hid hRn;have HRa:=Lib.hid hRa;have HV:=Lib.hid hV
 have HIf:=Lib.hid (show Ints w (.slice Af p.faces.length cf) p.faces from ⟨Af,cf,rfl,hf1,hf2,hRf⟩)
 have HPa:=Lib.hid hpa
 unfold maxLen at hn2 ha2 hf2
 obtain ⟨N,hN⟩:∃ N,p.nodes=N:=⟨_,rfl⟩
 obtain ⟨F,hF⟩:∃ F,p.faces=F:=⟨_,rfl⟩
 rw [hN] at hn1 HRn HFw HCk HS1 ⊢
 rw [hF] at hf1 HIf HFw HCk HS1 ⊢
 have HNn:=Lib.hid hN;have HNf:=Lib.hid hF
 have hb1:N.length≤9223372036854775807:=by omega
 have hb2:al.length≤9223372036854775807:=by omega
 have hb3:F.length≤9223372036854775807:=by omega
 obtain ⟨few,hfew⟩:∃ few,fewS p 60=few:=⟨_,rfl⟩
 rw [hfew] at HFw
 have HFew:=Lib.hid hfew
 clear hRn hRa hRf hV hpa hN hF hn1 hn2 ha1 ha2 hf1 hf2 hfew hw
 go_enter Tryz.func3,Tryz.ntmps3
 go_upto_region 1 with fail
 obtain ⟨g2,hg2⟩:∃ g,w.heap.size=g:=⟨_,rfl⟩
 obtain ⟨W1,hW⟩:∃ W:World,W=w.alloc (.cells #[.slice An N.length cn,.slice Aa al.length ca,.slice Af F.length cf] 26):=⟨_,rfl⟩
 have X2:Blk W1 g2 26 #[.slice An N.length cn,.slice Aa al.length ca,.slice Af F.length cf]:=by rw [hW,← hg2];exact Blk.made rfl _ _
 have HB1:=Lib.hid (show Below w.heap.size w W1 by rw [hW];exact bA (bR w) _)
 rw [← hW]
 try rw [hg2]
 clear hW hg2
 have HX2:=Lib.hid X2
 obtain ⟨X2l,X2a,X2b,X2c,-,-,-⟩:=X2.facts3
 go_wp2_with fail
 refine (HFw.out _ HB1.out).mono ?_
 rintro e w2 ⟨rfl,hb2'⟩
 have HB2:=Lib.hid (bT HB1.out hb2');have HX22:=Lib.hid (HX2.out.keep hb2')
 clear hb2' X2 X2l X2a X2b X2c HX2 HB1 HFw
 cases few
 case false =>
  go_wp2_with fail
  refine (HAw.out _).mono ?_
  rintro e w3 ⟨rfl,hb3'⟩
  have HB3:=Lib.hid (bT HB2.out hb3')
  clear hb3'
  go_wp2_with fail
  go_ret
  exact ⟨rfl,HB3.out⟩
 have hm:=Mod34.of_few HFew.out
 have hfc:F.length≤1000000:=by
  have h:=HFew.out
  unfold fewS at h
  have h:=of_decide_eq_true h
  rw [← HNf.out]
  omega
 have HSa:=Lib.hid (fun u1 u2 P W (h1:PlV W u1 P) (h2:PlV W u2 P)=>RSame14_true u1 u2 P W h1 h2)
 by_cases hz:rchkS p=0
 case neg =>
  have HG1:=Lib.hid (show ∀ W,Below w.heap.size w W→Calls Tryz.prog 9 #[.agg #[.slice An N.length cn,.slice Aa al.length ca,.slice Af F.length cf],.int .i64 tol] W (RetSm W (pl0,rchkS p)) from fun W hW=>by
   have h9:=HS1.out hm.1 hfc W hW
   unfold smR at h9
   rw [if_pos hz] at h9
   exact h9)
  generalize rchkS p=z at *
  have hzb:(z != 0)=true:=by simpa using hz
  have hzz:(z == z)=true:=by simp
  clear HS1 hm hfc hz HNn HNf HFew HRn HRa HV HIf HPa
  have X2:=HX22.out
  try clear X2l
  try clear X2a
  try clear X2b
  try clear X2c
  obtain ⟨X2l,X2a,X2b,X2c,-,-,-⟩:=X2.facts3
  go_wp2_with fail
  refine (HG1.out _ HB2.out).mono ?_
  rintro e w5 ⟨v5,rfl,hb5,hp5⟩
  obtain ⟨A5,c5,D5,d5,E5,e5,rfl⟩:=hp5.form
  have HP5:=Lib.hid hp5
  have HB5:=Lib.hid (bT HB2.out hb5);have HX25:=Lib.hid (HX22.out.keep hb5)
  clear hb5 hp5 X2 X2l X2a X2b X2c HX22 HB2
  simp only at HP5 ⊢
  obtain ⟨n1,hn1⟩:∃ n1,pl0.nodes.length=n1:=⟨_,rfl⟩
  obtain ⟨n2,hn2⟩:∃ n2,pl0.arcs.length=n2:=⟨_,rfl⟩
  obtain ⟨n3,hn3⟩:∃ n3,pl0.faces.length=n3:=⟨_,rfl⟩
  rw [hn1,hn2,hn3] at HP5 ⊢
  clear hn1 hn2 hn3
  go_upto_region 4 with fail
  obtain ⟨g5,hg5⟩:∃ g,w5.heap.size=g:=⟨_,rfl⟩
  obtain ⟨W5,hW⟩:∃ W:World,W=w5.alloc (.cells #[.slice A5 n1 c5,.slice D5 n2 d5,.slice E5 n3 e5] 26):=⟨_,rfl⟩
  have hb:Below w5.heap.size w5 W5:=by rw [hW];exact bA (bR w5) _
  have HX5:=Lib.hid (show Blk W5 g5 26 #[.slice A5 n1 c5,.slice D5 n2 d5,.slice E5 n3 e5] by rw [hW,← hg5];exact Blk.made rfl _ _)
  have HQ:=Lib.hid (HP5.out.mono hb);have HC5:=Lib.hid (bT HB5.out hb);have HX3:=Lib.hid (HX25.out.keep hb)
  rw [hg5,← hW]
  clear hb hW HP5 HB5 HX25 hg5
  have X5:=HX5.out
  obtain ⟨X5l,X5a,X5b,X5c,-,-,-⟩:=X5.facts3
  go_wp2_with fail
  refine (HSa.out _ _ pl0 _ HQ.out (PlV.zero _)).mono ?_
  rintro e w6 ⟨rfl,hb6⟩
  have HC6:=Lib.hid (bT HC5.out hb6);have HX6:=Lib.hid (HX3.out.keep hb6)
  clear hb6 X5 X5l X5a X5b X5c HX5 HX3 HC5
  have X2:=HX6.out
  try clear X2l
  try clear X2a
  try clear X2b
  try clear X2c
  obtain ⟨X2l,X2a,X2b,X2c,-,-,-⟩:=X2.facts3
  go_wp2_with fail
  refine (HCk.out _ HC6.out).mono ?_
  rintro e w7 ⟨rfl,hb7⟩
  have HC7:=Lib.hid (bT HC6.out hb7)
  clear hb7 X2 X2l X2a X2b X2c
  go_wp2_with fail
  refine (HAw.out _).mono ?_
  rintro e w8 ⟨rfl,hb8⟩
  have HB8:=Lib.hid (bT HC7.out hb8)
  clear hb8
  go_wp2_with fail
  go_ret
  exact ⟨ret_bool (by simp),HB8.out⟩
 obtain ⟨q,hq⟩:∃ q,simpS p tol=q:=⟨_,rfl⟩
 have hsame:=same_simp hz tol
 rw [hq] at hsame
 have hth:=hsame.thin
 have hokq:=hsame.ok
 have HG1:=Lib.hid (show ∀ W,Below w.heap.size w W→Calls Tryz.prog 9 #[.agg #[.slice An N.length cn,.slice Aa al.length ca,.slice Af F.length cf],.int .i64 tol] W (RetSm W (q,0)) from fun W hW=>by
  have h9:=HS1.out hm.1 hfc W hW
  unfold smR at h9
  rw [if_neg (by rw [hz];simp),hq] at h9
  exact h9)
 have hqn:q.nodes=N:=hth.nodes.trans HNn.out
 have hqf:q.faces=F:=hth.faces.trans HNf.out
 have HTh:=Lib.hid hth;have HOk:=Lib.hid hokq;have HQn:=Lib.hid hqn;have HQf:=Lib.hid hqf
 clear hth hokq hqn hqf hsame hq hm hfc hz HS1 HFew HCk
 have X2:=HX22.out
 try clear X2l
 try clear X2a
 try clear X2b
 try clear X2c
 obtain ⟨X2l,X2a,X2b,X2c,-,-,-⟩:=X2.facts3
 go_wp2_with fail
 refine (HG1.out _ HB2.out).mono ?_
 rintro e w5 ⟨v5,rfl,hb5,hp5⟩
 have HCq:=Lib.hid (fun W (hW:Below w5.heap.size w5 W)=>show Calls Tryz.prog 11 #[v5] W fun e w'=>e=.returned (.int .i64 0)∧Below W.heap.size W w' from by
  have h9:=RegCheck_spec v5 q W (hp5.mono hW)
  rw [HOk.out] at h9
  exact h9)
 obtain ⟨_,_,_,bl,rfl,hpb,⟨Bn,dn,rfl,-,-,hSn⟩,⟨⟨Ba,da,rfl,-,-,hSa⟩,hU⟩,⟨Bf,df,rfl,hs1,hs2,hSf⟩⟩:=hp5
 simp only at hpb hSn hSf hU hSa hs1 ⊢
 have hIf:Ints w5 (.slice Bf q.faces.length df) q.faces:=⟨Bf,df,rfl,hs1,hs2,hSf⟩
 obtain ⟨hll,hrw⟩:=HTh.out.rows HPa.out hpb
 have HRw:=Lib.hid hrw
 simp only [HQn.out,HQf.out,hll] at hSn hIf HCq ⊢
 have HSn:=Lib.hid hSn;have HSa_:=Lib.hid hSa;have HU:=Lib.hid hU;have HIg:=Lib.hid hIf;have HLl:=Lib.hid hll
 have HB5:=Lib.hid (bT HB2.out hb5);have HX25:=Lib.hid (HX22.out.keep hb5)
 clear hb5 X2 X2l X2a X2b X2c HX22 HB2 hpb hSn hSa hU hs1 hs2 hSf hIf hll hrw HQn HQf HNn HNf HOk HTh HPa HSa HG1
 go_upto_region 4 with fail
 obtain ⟨g5,hg5⟩:∃ g,w5.heap.size=g:=⟨_,rfl⟩
 obtain ⟨W5,hW⟩:∃ W:World,W=w5.alloc (.cells #[.slice Bn N.length dn,.slice Ba al.length da,.slice Bf F.length df] 26):=⟨_,rfl⟩
 have hb:Below w5.heap.size w5 W5:=by rw [hW];exact bA (bR w5) _
 have HX5:=Lib.hid (show Blk W5 g5 26 #[.slice Bn N.length dn,.slice Ba al.length da,.slice Bf F.length df] by rw [hW,← hg5];exact Blk.made rfl _ _)
 have HC5:=Lib.hid hb;have HX3:=Lib.hid (HX25.out.keep hb)
 rw [hg5,← hW]
 clear hb hW HX25 hg5
 have X5:=HX5.out
 try clear X5l
 try clear X5a
 try clear X5b
 try clear X5c
 obtain ⟨X5l,X5a,X5b,X5c,-,-,-⟩:=X5.facts3
 go_wp2_with fail
 refine (HCq.out _ HC5.out).mono ?_
 rintro e w6 ⟨rfl,hb6⟩
 have HC6:=Lib.hid (bT HC5.out hb6);have HX26:=Lib.hid (HX3.out.keep hb6);have HX56:=Lib.hid (HX5.out.keep hb6)
 clear hb6 X5 X5l X5a X5b X5c HX5 HX3 HC5 HCq
 have X2:=HX26.out;have X5:=HX56.out
 try clear X2l
 try clear X2a
 try clear X2b
 try clear X2c
 obtain ⟨X2l,X2a,X2b,X2c,-,-,-⟩:=X2.facts3
 try clear X5l
 try clear X5a
 try clear X5b
 try clear X5c
 obtain ⟨X5l,X5a,X5b,X5c,-,-,-⟩:=X5.facts3
 have hnn:((N.length:Int) != N.length)=false:=by simp
 have haa:((al.length:Int) != al.length)=false:=by simp
 have HSi:=Lib.hid (show Calls Tryz.prog 12 #[.slice Bf F.length df,.slice Af F.length cf] w6 fun e w'=>e=.returned (.bool true)∧Below w6.heap.size w6 w' from by
  have h9:=SameInts_spec _ _ F F w6 (HIg.out.mono HC6.out) (HIf.out.mono (bT HB5.out HC6.out))
  rw [decide_eq_true rfl] at h9
  exact h9)
 go_wp2_with fail
 refine HSi.out.mono ?_
 rintro e w7 ⟨rfl,hb7⟩
 have HC7:=Lib.hid (bT HC6.out hb7);have HX27:=Lib.hid (HX26.out.keep hb7);have HX57:=Lib.hid (HX56.out.keep hb7)
 clear hb7 X2 X2l X2a X2b X2c X5 X5l X5a X5b X5c HX26 HX56 HC6 HSi HIg HIf hnn haa
 have X2:=HX27.out;have X5:=HX57.out
 try clear X2l
 try clear X2a
 try clear X2b
 try clear X2c
 obtain ⟨X2l,X2a,X2b,X2c,-,-,-⟩:=X2.facts3
 try clear X5l
 try clear X5a
 try clear X5b
 try clear X5c
 obtain ⟨X5l,X5a,X5b,X5c,-,-,-⟩:=X5.facts3
 go_wp2_with fail
 go_loopw [7] (fun u wr=>∃ k:Nat,k≤N.length∧u=.int .i64 k∧Below w7.heap.size w7 wr) (fun u _=>N.length-(intOf u).toNat)
 case atStart => exact ⟨0,Nat.zero_le _,rfl,bR w7⟩
 case round =>
  obtain ⟨k,hk,rfl,hb⟩:=hrel
  obtain ⟨wo,rfl⟩:∃ wo:World,wo=wr:=⟨_,rfl⟩
  have Hb:=Lib.hid hb
  clear hb X2 X2l X2a X2b X2c X5 X5l X5a X5b X5c
  have X2:=HX27.out.keep Hb.out;have X5:=HX57.out.keep Hb.out
  try clear X2l
  try clear X2a
  try clear X2b
  try clear X2c
  obtain ⟨X2l,X2a,X2b,X2c,-,-,-⟩:=X2.facts3
  try clear X5l
  try clear X5a
  try clear X5b
  try clear X5c
  obtain ⟨X5l,X5a,X5b,X5c,-,-,-⟩:=X5.facts3
  by_cases hlt:k<N.length
  ·
   obtain ⟨b,o,rfl,hlb,c0,c1,c2⟩:=(HRn.out.mono (bT (bT HB5.out HC7.out) Hb.out)).nd hlt
   obtain ⟨b',o',rfl,hlb',d0,d1,d2⟩:=(HSn.out.mono (bT HC7.out Hb.out)).nd hlt
   generalize N[k]=n at *
   have hE:=run_neq_nd n n
   have ht:(!decide (n=n))=false:=by simp
   rw [ht] at hE
   clear ht
   have k1:(k:Int)<N.length:=by omega
   have k2:0≤(k:Int):=by omega
   go_upto_region 11 with fail
   refine rg_start (Since wo) (.run 11 0 0 (.done)) (by kernel_rfl) (bD (bR _)) (by kernel_rfl) (by kernel_rfl) (Nat.le_of_ble_eq_true (by kernel_rfl)) ?_
   intro opsR QR Hops HQrg hS
   iterate 11
    apply rg_p;exact Hops;exact rfl;exact hS;exact rfl
    · intro _ hqc;go_simp;try rfl
    try simp only [pu]
   refine rg_done ?_
   refine HQrg.down _ _ ?_
   have hB:Below wo.heap.size wo wo.drew:=hS
   clear hS HQrg Hops
   have HB4:=Lib.hid (bT Hb.out hB)
   clear hB X2 X2l X2a X2b X2c X5 X5l X5a X5b X5c c0 c1 c2 d0 d1 d2 hE
   go_wp2_with fail
   go_roundw
   case rel => exact ⟨k+1,by omega,by go_num,HB4.out⟩
   case measure => simp [intOf];omega
  ·
   have k1:¬ (k:Int)<N.length:=by omega
   clear hlt
   go_wp2_with fail
   go_loopw [8] (fun u wr=>∃ k:Nat,k≤al.length∧u=.int .i64 k∧Below w7.heap.size w7 wr) (fun u _=>al.length-(intOf u).toNat)
   case atStart => exact ⟨0,Nat.zero_le _,rfl,Hb.out⟩
   case round =>
    obtain ⟨j,hj,rfl,hb⟩:=hrel
    obtain ⟨wi,rfl⟩:∃ wi:World,wi=wr:=⟨_,rfl⟩
    have Hb2:=Lib.hid hb
    clear hb X2 X2l X2a X2b X2c X5 X5l X5a X5b X5c
    have X2:=HX27.out.keep Hb2.out;have X5:=HX57.out.keep Hb2.out
    try clear X2l
    try clear X2a
    try clear X2b
    try clear X2c
    obtain ⟨X2l,X2a,X2b,X2c,-,-,-⟩:=X2.facts3
    try clear X5l
    try clear X5a
    try clear X5b
    try clear X5c
    obtain ⟨X5l,X5a,X5b,X5c,-,-,-⟩:=X5.facts3
    by_cases hlt:j<al.length
    ·
     have hlt':j<bl.length:=by rw [HLl.out];exact hlt
     obtain ⟨b,o,rfl,hlb,c0,c1,c2,c3,c4,c5⟩:=(HRa.out.mono (bT (bT HB5.out HC7.out) Hb2.out)).ar hlt
     obtain ⟨b',o',rfl,hlb',d0,d1,d2,d3,d4,d5⟩:=(HSa_.out.mono (bT HC7.out Hb2.out)).ar hlt'
     have v1:=HV.out j hlt;have v2:=HU.out j hlt'
     obtain ⟨Av,cv,hva,-⟩:=id v1
     obtain ⟨Au,cu,hua,-⟩:=id v2
     obtain ⟨i1,i2,i3,i4,i5,i6⟩:=HRw.out j hlt hlt'
     rw [i1] at d0
     rw [i2] at d1
     rw [i3] at d2
     rw [i4] at d4
     rw [i5] at d5
     rw [hva] at c3 v1
     rw [hua] at d3 v2
     generalize al[j].1=a at *
     generalize bl[j].1=a' at *
     have HPt:=Lib.hid (fun W (hW:Below w7.heap.size w7 W)=>show Calls Tryz.prog 13 #[.slice Au a'.via.length cu,.slice Av a.via.length cv] W fun e w'=>e=.returned (.bool true)∧Below W.heap.size W w' from Part34_spec _ _ a'.via a.via W (v2.mono (bT HC7.out hW)) (v1.mono (bT (bT HB5.out HC7.out) hW)) i6)
     have HS:=Lib.hid (fun W=>show Calls Tryz.prog 14 #[arV ⟨a.id,a.fr,a.dst,[],a.left,a.right⟩ (.slice none 0 0),arV ⟨a.id,a.fr,a.dst,[],a.left,a.right⟩ (.slice none 0 0)] W fun e w'=>e=.returned (.bool true)∧Below W.heap.size W w' from by
      have t:=SameArc_spec ⟨a.id,a.fr,a.dst,[],a.left,a.right⟩ ⟨a.id,a.fr,a.dst,[],a.left,a.right⟩ (.slice none 0 0) (.slice none 0 0) W (Sl.nil W) (Sl.nil W)
      rw [decide_eq_true rfl] at t
      exact t)
     unfold arV at HS
     simp only at HS
     have k3:(j:Int)<al.length:=by omega
     have k4:0≤(j:Int):=by omega
     clear v1 v2 hva hua i1 i2 i3 i4 i5 i6
     generalize a'.via.length=lv' at *
     generalize a.via.length=lv at *
     obtain ⟨aid,afr,adst,avia,aleft,aright⟩:=a
     simp only at c0 c1 c2 c4 c5 d0 d1 d2 d4 d5 HS
     go_upto_region 16 with fail
     go_cut [9,10] (fun u1 u2 wx=>∃ g9 g10,u1=.pointer (some ⟨g9,0,none⟩)∧u2=.pointer (some ⟨g10,0,none⟩)∧wi.heap.size≤g9∧wi.heap.size≤g10∧g9≠g10∧Blk wx g9 41 #[.int .i64 aid,.int .i64 afr,.int .i64 adst,.slice Av lv cv,.int .i64 aleft,.int .i64 aright]∧Blk wx g10 41 #[.int .i64 aid,.int .i64 afr,.int .i64 adst,.slice Au lv' cu,.int .i64 aleft,.int .i64 aright]∧Below wi.heap.size wi wx)
     case first =>
      refine rg_start (SinceB (wi.heap.size) wi) (.run 10 0 0 (.two 10 2047 (.call 11 4095 (.call 12 8191 (.call 13 16383 (.done)))) 11 3071 (.call 10 4095 (.call 12 8191 (.call 13 16383 (.done)))))) (by kernel_rfl) (Below.drew (Below.refl _ _)) (by kernel_rfl) (by kernel_rfl) (Nat.le_of_ble_eq_true (by kernel_rfl)) ?_
      intro opsR QR Hops HQrg hS
      iterate 10
       apply rg_pB;exact Hops;exact rfl;exact hS;exact rfl
       · intro _ hqc;go_simp;try rfl
       try simp only [pu]
      refine rg_two (i:=10) (j:=11) (get_of Hops rfl) (get_of Hops rfl) (fun K hK=>?_) (fun K hK=>?_)
      ·
       have HSrg:=Lib.hid hS;clear hS
       refine rg_run (wanted_plain rfl) ?_
       go_simp
       have XAy:Below (wi.heap.size) wi (wi.drew):=HSrg.out
       have XAz:wi.heap.size≤(wi.drew).heap.size:=Nat.le_trans (by omega) (show Below (wi.heap.size) wi (wi.drew) from HSrg.out).size
       refine hK.out _ _ (bAB (by omega) HSrg.out _) (fun hS=>?_)
       clear hK K HSrg
       try replace XA:=XA.alloc (.cells #[.int .i64 0,.int .i64 0,.int .i64 0,.slice none 0 0,.int .i64 0,.int .i64 0] 41)
       try replace XB:=XB.alloc (.cells #[.int .i64 0,.int .i64 0,.int .i64 0,.slice none 0 0,.int .i64 0,.int .i64 0] 41)
       have XA:=Blk.new (wi.drew) 41 #[.int .i64 0,.int .i64 0,.int .i64 0,.slice none 0 0,.int .i64 0,.int .i64 0]
       try simp only [World.size_drew,World.size_alloc] at XA XAz
       try simp only [pu]
       refine rg_call (i:=11) (get_of Hops rfl) (fun K hK=>?_)
       have HSrg:=Lib.hid hS;clear hS
       refine rg_run (wanted_plain rfl) ?_
       go_simp
       have XBy:Below (wi.heap.size) wi ((wi.alloc (.cells #[.int .i64 0,.int .i64 0,.int .i64 0,.slice none 0 0,.int .i64 0,.int .i64 0] 41)).drew):=HSrg.out
       have XBz:wi.heap.size≤((wi.alloc (.cells #[.int .i64 0,.int .i64 0,.int .i64 0,.slice none 0 0,.int .i64 0,.int .i64 0] 41)).drew).heap.size:=Nat.le_trans (by omega) (show Below (wi.heap.size) wi ((wi.alloc (.cells #[.int .i64 0,.int .i64 0,.int .i64 0,.slice none 0 0,.int .i64 0,.int .i64 0] 41)).drew) from HSrg.out).size
       refine hK.out _ _ (bAB (by omega) HSrg.out _) (fun hS=>?_)
       clear hK K HSrg
       try replace XA:=XA.alloc (.cells #[.int .i64 0,.int .i64 0,.int .i64 0,.slice none 0 0,.int .i64 0,.int .i64 0] 41)
       try replace XB:=XB.alloc (.cells #[.int .i64 0,.int .i64 0,.int .i64 0,.slice none 0 0,.int .i64 0,.int .i64 0] 41)
       have XB:=Blk.new ((wi.alloc (.cells #[.int .i64 0,.int .i64 0,.int .i64 0,.slice none 0 0,.int .i64 0,.int .i64 0] 41)).drew) 41 #[.int .i64 0,.int .i64 0,.int .i64 0,.slice none 0 0,.int .i64 0,.int .i64 0]
       try simp only [World.size_drew,World.size_alloc] at XB XBz
       try simp only [pu]
       refine rg_call (i:=12) (get_of Hops rfl) (fun K hK=>?_)
       have HSrg:=Lib.hid hS;clear hS
       refine rg_run (wanted_plain rfl) ?_
       obtain ⟨XAl,XAa,XAb,XAc,XAd,XAe,XAf,XAfa,XAfb,XAfc,XAfd,XAfe,XAff⟩:=XA.facts6
       obtain ⟨XBl,XBa,XBb,XBc,XBd,XBe,XBf,XBfa,XBfb,XBfc,XBfd,XBfe,XBff⟩:=XB.facts6
       go_simp
       refine hK.out _ _ (by unfold SinceB;have h:Below _ _ _:=HSrg.out;repeat (first | with_reducible assumption | with_reducible exact Below.refl _ _ | with_reducible refine bSB ?_ (by first | omega | (simp;omega)) _ | with_reducible refine Below.drew ?_ | with_reducible refine bAB (by omega) ?_ _ | exact h)) ?_
       intro hS
       clear hK K HSrg
       try simp only [pu]
       refine rg_call (i:=13) (get_of Hops rfl) (fun K hK=>?_)
       have HSrg:=Lib.hid hS;clear hS
       refine rg_run (wanted_plain rfl) ?_
       go_simp
       refine hK.out _ _ (by unfold SinceB;have h:Below _ _ _:=HSrg.out;repeat (first | with_reducible assumption | with_reducible exact Below.refl _ _ | with_reducible refine bSB ?_ (by first | omega | (simp;omega)) _ | with_reducible refine Below.drew ?_ | with_reducible refine bAB (by omega) ?_ _ | exact h)) ?_
       intro hS
       clear hK K HSrg
       try simp only [pu]
       refine rg_done ?_
       refine HQrg.down _ _ ?_
       have hB:Below (wi.heap.size) wi _:=hS
       clear hS HQrg Hops
       go_wp2_with fail
       go_meet
       case rel => exact ⟨_,_,rfl,rfl,by simp,by simp,by simp,(by first | exact ((Blk.made rfl _ _).alloc _).drew | exact (Blk.made (by simp) _ _).drew),(by first | exact ((Blk.made rfl _ _).alloc _).drew | exact (Blk.made (by simp) _ _).drew),hB⟩
      ·
       have HSrg:=Lib.hid hS;clear hS
       refine rg_run (wanted_plain rfl) ?_
       go_simp
       have XBy:Below (wi.heap.size) wi (wi.drew):=HSrg.out
       have XBz:wi.heap.size≤(wi.drew).heap.size:=Nat.le_trans (by omega) (show Below (wi.heap.size) wi (wi.drew) from HSrg.out).size
       refine hK.out _ _ (bAB (by omega) HSrg.out _) (fun hS=>?_)
       clear hK K HSrg
       try replace XA:=XA.alloc (.cells #[.int .i64 0,.int .i64 0,.int .i64 0,.slice none 0 0,.int .i64 0,.int .i64 0] 41)
       try replace XB:=XB.alloc (.cells #[.int .i64 0,.int .i64 0,.int .i64 0,.slice none 0 0,.int .i64 0,.int .i64 0] 41)
       have XB:=Blk.new (wi.drew) 41 #[.int .i64 0,.int .i64 0,.int .i64 0,.slice none 0 0,.int .i64 0,.int .i64 0]
       try simp only [World.size_drew,World.size_alloc] at XB XBz
       try simp only [pu]
       refine rg_call (i:=10) (get_of Hops rfl) (fun K hK=>?_)
       have HSrg:=Lib.hid hS;clear hS
       refine rg_run (wanted_plain rfl) ?_
       go_simp
       have XAy:Below (wi.heap.size) wi ((wi.alloc (.cells #[.int .i64 0,.int .i64 0,.int .i64 0,.slice none 0 0,.int .i64 0,.int .i64 0] 41)).drew):=HSrg.out
       have XAz:wi.heap.size≤((wi.alloc (.cells #[.int .i64 0,.int .i64 0,.int .i64 0,.slice none 0 0,.int .i64 0,.int .i64 0] 41)).drew).heap.size:=Nat.le_trans (by omega) (show Below (wi.heap.size) wi ((wi.alloc (.cells #[.int .i64 0,.int .i64 0,.int .i64 0,.slice none 0 0,.int .i64 0,.int .i64 0] 41)).drew) from HSrg.out).size
       refine hK.out _ _ (bAB (by omega) HSrg.out _) (fun hS=>?_)
       clear hK K HSrg
       try replace XA:=XA.alloc (.cells #[.int .i64 0,.int .i64 0,.int .i64 0,.slice none 0 0,.int .i64 0,.int .i64 0] 41)
       try replace XB:=XB.alloc (.cells #[.int .i64 0,.int .i64 0,.int .i64 0,.slice none 0 0,.int .i64 0,.int .i64 0] 41)
       have XA:=Blk.new ((wi.alloc (.cells #[.int .i64 0,.int .i64 0,.int .i64 0,.slice none 0 0,.int .i64 0,.int .i64 0] 41)).drew) 41 #[.int .i64 0,.int .i64 0,.int .i64 0,.slice none 0 0,.int .i64 0,.int .i64 0]
       try simp only [World.size_drew,World.size_alloc] at XA XAz
       try simp only [pu]
       refine rg_call (i:=12) (get_of Hops rfl) (fun K hK=>?_)
       have HSrg:=Lib.hid hS;clear hS
       refine rg_run (wanted_plain rfl) ?_
       obtain ⟨XAl,XAa,XAb,XAc,XAd,XAe,XAf,XAfa,XAfb,XAfc,XAfd,XAfe,XAff⟩:=XA.facts6
       obtain ⟨XBl,XBa,XBb,XBc,XBd,XBe,XBf,XBfa,XBfb,XBfc,XBfd,XBfe,XBff⟩:=XB.facts6
       go_simp
       refine hK.out _ _ (by unfold SinceB;have h:Below _ _ _:=HSrg.out;repeat (first | with_reducible assumption | with_reducible exact Below.refl _ _ | with_reducible refine bSB ?_ (by first | omega | (simp;omega)) _ | with_reducible refine Below.drew ?_ | with_reducible refine bAB (by omega) ?_ _ | exact h)) ?_
       intro hS
       clear hK K HSrg
       try simp only [pu]
       refine rg_call (i:=13) (get_of Hops rfl) (fun K hK=>?_)
       have HSrg:=Lib.hid hS;clear hS
       refine rg_run (wanted_plain rfl) ?_
       go_simp
       refine hK.out _ _ (by unfold SinceB;have h:Below _ _ _:=HSrg.out;repeat (first | with_reducible assumption | with_reducible exact Below.refl _ _ | with_reducible refine bSB ?_ (by first | omega | (simp;omega)) _ | with_reducible refine Below.drew ?_ | with_reducible refine bAB (by omega) ?_ _ | exact h)) ?_
       intro hS
       clear hK K HSrg
       try simp only [pu]
       refine rg_done ?_
       refine HQrg.down _ _ ?_
       have hB:Below (wi.heap.size) wi _:=hS
       clear hS HQrg Hops
       go_wp2_with fail
       go_meet
       case rel => exact ⟨_,_,rfl,rfl,by simp,by simp,by simp,(by first | exact ((Blk.made rfl _ _).alloc _).drew | exact (Blk.made (by simp) _ _).drew),(by first | exact ((Blk.made rfl _ _).alloc _).drew | exact (Blk.made (by simp) _ _).drew),hB⟩
     case rest =>
     obtain ⟨g9,g10,rfl,rfl,hz9,hz10,hne,x9,x10,hbc⟩:=hcut
     obtain ⟨W2,hW⟩:∃ W:World,W=wc:=⟨_,rfl⟩
     rw [← hW] at x9 x10 hbc ⊢
     have HX9:=Lib.hid x9;have HX10:=Lib.hid x10;have HBi:=Lib.hid hbc;have HBc:=Lib.hid (bT Hb2.out hbc)
     clear hW hbc c0 c1 c2 c3 c4 c5 d0 d1 d2 d3 d4 d5 X2 X2l X2a X2b X2c X5 X5l X5a X5b X5c
     obtain ⟨x9l,x9a,x9b,x9c,x9d,x9e,x9f,-,-,-,-,-,-⟩:=x9.facts6
     obtain ⟨x10l,x10a,x10b,x10c,x10d,x10e,x10f,-,-,-,-,-,-⟩:=x10.facts6
     go_wp2_with fail
     refine (HPt.out _ HBc.out).mono ?_
     rintro e w8 ⟨rfl,hb8⟩
     have x9':=HX9.out.keep hb8;have x10':=HX10.out.keep hb8
     have HB8:=Lib.hid (bT HBi.out hb8)
     clear hb8 x9 x9l x9a x9b x9c x9d x9e x9f x10 x10l x10a x10b x10c x10d x10e x10f HX9 HX10 HBi HBc HPt
     have HX9:=Lib.hid x9';have HX10:=Lib.hid x10'
     try clear x9'l
     try clear x9'a
     try clear x9'b
     try clear x9'c
     try clear x9'd
     try clear x9'e
     try clear x9'f
     try clear x9'fa
     try clear x9'fb
     try clear x9'fc
     try clear x9'fd
     try clear x9'fe
     try clear x9'ff
     obtain ⟨x9'l,x9'a,x9'b,x9'c,x9'd,x9'e,x9'f,x9'fa,x9'fb,x9'fc,x9'fd,x9'fe,x9'ff⟩:=x9'.facts6
     try clear x10'l
     try clear x10'a
     try clear x10'b
     try clear x10'c
     try clear x10'd
     try clear x10'e
     try clear x10'f
     try clear x10'fa
     try clear x10'fb
     try clear x10'fc
     try clear x10'fd
     try clear x10'fe
     try clear x10'ff
     obtain ⟨x10'l,x10'a,x10'b,x10'c,x10'd,x10'e,x10'f,x10'fa,x10'fb,x10'fc,x10'fd,x10'fe,x10'ff⟩:=x10'.facts6
     go_upto_region 20 with fail
     obtain ⟨W3,hW⟩:∃ W:World,W=(w8.setCell ⟨g9,3,none⟩ (.slice none 0 0)).setCell ⟨g10,3,none⟩ (.slice none 0 0):=⟨_,rfl⟩
     rw [← hW]
     have y9:Blk W3 g9 41 #[.int .i64 aid,.int .i64 afr,.int .i64 adst,.slice none 0 0,.int .i64 aleft,.int .i64 aright]:=by rw [hW];exact (HX9.out.set_ 3 (.slice none 0 0)).far (p:=⟨g10,3,none⟩) hne _
     have y10:Blk W3 g10 41 #[.int .i64 aid,.int .i64 afr,.int .i64 adst,.slice none 0 0,.int .i64 aleft,.int .i64 aright]:=by rw [hW];exact (HX10.out.far (p:=⟨g9,3,none⟩) (Ne.symm hne) _).set_ 3 (.slice none 0 0)
     have HB3:=Lib.hid (show Below wi.heap.size wi W3 from by rw [hW];exact bS (p:=⟨g10,3,none⟩) (bS (p:=⟨g9,3,none⟩) HB8.out hz9 _) hz10 _)
     clear hW x9' x9'l x9'a x9'b x9'c x9'd x9'e x9'f x9'fa x9'fb x9'fc x9'fd x9'fe x9'ff x10' x10'l x10'a x10'b x10'c x10'd x10'e x10'f x10'fa x10'fb x10'fc x10'fd x10'fe x10'ff HX9 HX10 HB8
     obtain ⟨y9l,y9a,y9b,y9c,y9d,y9e,y9f,-,-,-,-,-,-⟩:=y9.facts6
     obtain ⟨y10l,y10a,y10b,y10c,y10d,y10e,y10f,-,-,-,-,-,-⟩:=y10.facts6
     go_wp2_with fail
     refine (HS.out _).mono ?_
     rintro e w9 ⟨rfl,hb9⟩
     have HB9:=Lib.hid (bT Hb2.out (bT HB3.out hb9))
     clear hb9 y9 y9l y9a y9b y9c y9d y9e y9f y10 y10l y10a y10b y10c y10d y10e y10f HB3 HS
     go_wp2_with fail
     go_roundw
     case rel => exact ⟨j+1,by omega,by go_num,HB9.out⟩
     case measure => simp [intOf];omega
    ·
     have k3:¬ (j:Int)<al.length:=by omega
     clear hlt
     go_wp2_with fail
     refine (HAw.out _).mono ?_
     rintro e w9 ⟨rfl,hb9⟩
     have HB9:=Lib.hid (bT (bT HB5.out (bT HC7.out Hb2.out)) hb9)
     clear hb9
     go_wp2_with fail
     go_ret
     exact ⟨rfl,HB9.out⟩
end Go.Proofs.YtnhdmghgjngcaaaGreat
