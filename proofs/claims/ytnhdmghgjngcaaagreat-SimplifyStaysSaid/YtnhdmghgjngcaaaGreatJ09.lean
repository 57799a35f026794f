import Derived.Test.YtnhdmghgjngcaaaGreatJ08
import Derived.Test.YtnhdmghgjngcaaaGreatJ04
import Derived.Test.YtnhdmghgjngcaaaGreatJ05
import Derived.Test.YtnhdmghgjngcaaaGreatJ07
set_option linter.unusedSimpArgs false
set_option linter.unusedVariables false
namespace Go.Proofs.YtnhdmghgjngcaaaGreat
open Go.RowKit

theorem Valid.short {p:Pl} (h:Valid p):Short p:=fun a ha=>by have:=h.via_len ha;omega
theorem Short.long {p:Pl} (h:Short p):ShortL p:=fun a ha=>by have:=h a ha;omega
theorem Valid.path_of {p:Pl} (h:Valid p) {d:Int} {a:Ar} (e:arcD p d=some a):pathOf p (absI d)=some (pathS p a):=by
 obtain ⟨ha,hi⟩:=arcD_mem e
 rw [hi];exact h.sound.path ha
theorem max_abs (d:Int):max d (-d)=absI d:=by unfold absI;split<;>omega
theorem twiceUp_some {p:Pl} {l:List Int} {k:Nat} (hk:k<l.length) {a:Ar} (e:arcD p l[k]=some a):twiceUp p l (k+1)=twiceUp p l k+(if 0<l[k] then twiceP (pathS p a) else -twiceP (pathS p a)):=by
 have:l.getD k 0=l[k]:=by rw [List.getD_eq_getElem?_getD,List.getElem?_eq_getElem hk];rfl
 rw [twiceUp,this]
 unfold dartT
 rw [e]
theorem twiceD_bad {p:Pl} {l:List Int} {k:Nat} (hk:k<l.length) (e:arcD p l[k]=none):twiceD p l=0:=by
 unfold twiceD
 rw [if_neg]
 rintro ⟨-,h⟩
 have:=h _ (List.getElem_mem hk)
 rw [e] at this;cases this
theorem twiceD_good {p:Pl} {l:List Int} (hl:l.length≤512) (h:∀ j (hj:j<l.length),j<l.length→(arcD p l[j]).isSome=true):twiceD p l=twiceUp p l l.length:=by
 unfold twiceD
 rw [if_pos]
 refine ⟨hl,fun d hd=>?_⟩
 obtain ⟨j,hj,rfl⟩:=List.mem_iff_getElem.1 hd
 exact h j hj hj

set_option maxRecDepth 100000 in
set_option maxHeartbeats 8000000 in
theorem Twice15w_spec (v u:Value) (p:Pl) (l:List Int) (w:World) (h:PlV w v p) (hu:Ints w u l) (hv:Valid p) (hw:∀ d∈l,wfI d) :
  Calls Tryz.prog 61 #[v,u] w fun e w'=>e=.returned (.int .i64 (twiceD p l))∧Below w.heap.size w w':=by
 have HA:=Lib.hid (fun d (hd:wfI d) W (hW:Below w.heap.size w W)=>arcOf_spec v p d W (h.mono hW) hv.short.long hd)
 have HP:=Lib.hid (fun id W (hW:Below w.heap.size w W)=>Path_spec v p id W (h.mono hW) hv.short)
 obtain ⟨_,_,_,al,rfl,hpa,⟨An,cn,rfl,-⟩,⟨⟨Aa,ca,rfl,-⟩,-⟩,⟨Af,cf,rfl,-⟩⟩:=h
 obtain ⟨Al,cl,rfl,hl1,hl2,hR⟩:=hu
 unfold maxLen at hl2
 have HR:=Lib.hid hR
 have HV:=Lib.hid hv
 have HW:=Lib.hid hw
 generalize al.length=na at *
 generalize p.nodes.length=nn at *
 generalize p.faces.length=nf at *
 obtain ⟨q,hq⟩:∃ q,twiceD p l=q:=⟨_,rfl⟩
 rw [hq]
 have Hq:=Lib.hid hq
 clear hpa hR hv hw hq
 go_enter Tryz.func61,Tryz.ntmps61
 by_cases hbig:512<l.length
 case pos =>
  have hbig':512<(l.length:Int):=by omega
  have hf:q=0:=by rw [← Hq.out];unfold twiceD;rw [if_neg (by omega)]
  subst hf
  go_wp2_with fail
  go_ret
  exact ⟨rfl,bA (bR w) _⟩
 have hbig':¬ 512<(l.length:Int):=by omega
 go_wp2_with fail
 obtain ⟨W0,hW⟩:∃ W0:World,W0=w.alloc (.cells #[.slice An nn cn,.slice Aa na ca,.slice Af nf cf] 26):=⟨_,rfl⟩
 have HB0:=Lib.hid (show Below w.heap.size w W0 by rw [hW];exact bA (bR w) _)
 have HX2:=Lib.hid (show Blk W0 w.heap.size 26 #[.slice An nn cn,.slice Aa na ca,.slice Af nf cf] by rw [hW];exact Blk.made rfl _ _)
 rw [← hW]
 clear hW
 go_loopw [4,18] (fun n i wr=>∃ k:Nat,k≤l.length∧i=.int .i64 k∧n=.int .i64 (twiceUp p l k)∧Below W0.heap.size W0 wr∧∀ j (hj:j<l.length),j<k→(arcD p l[j]).isSome=true) (fun _ i _=>l.length-(intOf i).toNat)
 case atStart => exact ⟨0,Nat.zero_le _,rfl,rfl,bR W0,fun _ _ h=>by omega⟩
 case round =>
  obtain ⟨k,hk,rfl,rfl,hb,hno⟩:=hrel
  have Hb:=Lib.hid hb
  have Hno:=Lib.hid hno
  have X2:=HX2.out.keep hb
  clear hb hno
  obtain ⟨X2l,X2a,X2b,X2c,-,-,-⟩:=X2.facts3
  by_cases hlt:k<l.length
  case neg =>
   have hkk:k=l.length:=by omega
   subst hkk
   have hf:=twiceD_good (p:=p) (l:=l) (by omega) Hno.out
   rw [Hq.out] at hf
   have HF:=Lib.hid hf
   clear hf
   go_wp2_with fail
   go_ret
   exact ⟨ret_int HF.out.symm,bT HB0.out Hb.out⟩
  obtain ⟨b,o,rfl,hlb,c0⟩:=(HR.out.mono (bT HB0.out Hb.out)).int hlt
  have hwd:=HW.out _ (List.getElem_mem hlt)
  have HAr:=Lib.hid (HA.out l[k] hwd)
  cases har:arcD p l[k] with
  | none =>
   rw [har] at HAr
   have hf:=twiceD_bad hlt har
   rw [Hq.out] at hf
   subst hf
   clear har hwd
   go_wp2_with fail
   refine (HAr.out _ (bT HB0.out Hb.out)).mono ?_
   rintro e w1 ⟨A1,n1,c1,rfl,hb1⟩
   have B1:=Lib.hid (bT Hb.out hb1)
   clear hb1
   simp only [Option.isSome_none]
   go_wp2_with fail
   go_ret
   exact ⟨rfl,bT HB0.out (bA B1.out _)⟩
  | some a =>
  rw [har] at HAr
  have hst:=twiceUp_some hlt har
  have hpo:=HV.out.path_of har
  have ha:=(arcD_mem har).1
  have hpl:=pathS_length p a
  have hvl:=HV.out.via_len ha
  have HTb:=Lib.hid (fun k hk=>HV.out.twice_bd ha k hk)
  have hub:=HV.out.twiceUp_bd l k
  have hne:l[k]≠-9223372036854775808∧l[k]≠0:=by
   constructor
   · intro e;rw [e] at har;unfold arcD at har;rw [if_pos (.inr rfl)] at har;cases har
   · intro e;rw [e] at har;unfold arcD at har;rw [if_pos (.inl rfl)] at har;cases har
  have hbd:=wfI_bd hwd
  have HPt:=Lib.hid (HP.out (max l[k] (-l[k])))
  have hpm:pathOf p (max l[k] (-l[k]))=some (pathS p a):=by rw [max_abs];exact hpo
  rw [hpm] at HPt
  unfold RetPathE at HPt
  simp only [Option.getD_some,Option.isSome_some,if_true] at HPt
  have HSt:=Lib.hid hst
  have HSo:=Lib.hid (show (arcD p l[k]).isSome=true by rw [har];rfl)
  have HNx:=Lib.hid (all_succ (p:=fun d=>(arcD p d).isSome=true) Hno.out hlt HSo.out)
  have hk1:IntKind.i64.wrap (-l[k])=-l[k]:=IntWalk.i64_in _ (by omega)
  have HBig:=Lib.hid (fun q (hq:q∈pathS p a)=>HV.out.big_path ha hq)
  have HTl:=Lib.hid (HTb.out ((pathS p a).length-1) (by omega))
  have HNe:=Lib.hid hne
  have HSz:=Lib.hid (show k+1≤512 by omega)
  clear hst hpo har hwd hpm hne hbd
  unfold twiceP at HSt
  generalize twiceUp p l k=n at *
  generalize hP:pathS p a=P at *
  generalize l[k]=d at *
  generalize a.via.length=vl at *
  go_wp2_with fail
  refine (HAr.out _ (bT HB0.out Hb.out)).mono ?_
  rintro e w1 ⟨A1,n1,c1,rfl,hb1⟩
  replace X2:=X2.keep hb1
  have B1:=Lib.hid (bT Hb.out hb1)
  clear hb1 X2l X2a X2b X2c HAr c0 hlb
  simp only [Option.isSome_some,Option.getD_some]
  try clear X2l
  try clear X2a
  try clear X2b
  try clear X2c
  obtain ⟨X2l,X2a,X2b,X2c,-,-,-⟩:=X2.facts3
  go_wp2_with fail
  refine (HPt.out _ (bT HB0.out (bA B1.out _))).mono ?_
  rintro e w2 ⟨A2,c2,rfl,hb2,ho2⟩
  have B2:=Lib.hid (bT (bA B1.out _) hb2)
  obtain ⟨Aq,cq,he,hq1,hq2,hRP⟩:=ho2.sl
  injection he with e1 e2 e3
  subst e1 e3
  clear e2
  unfold maxLen at hq2
  have HRP:=Lib.hid hRP
  clear hb2 ho2 hRP HPt X2 X2l X2a X2b X2c
  obtain ⟨N,hN⟩:∃ N,P.length=N+1:=⟨P.length-1,by omega⟩
  have HN:=Lib.hid hN
  have hNs:N≤65:=by omega
  rw [hN] at HTl HSt
  simp only [Nat.add_sub_cancel] at HTl HSt
  have k2:IntKind.i64.wrap (N:Int)=(N:Int):=IntWalk.i64_in _ (by omega)
  rw [hN] at hq1 ⊢
  clear hN hpl hvl
  go_wp2_with fail
  obtain ⟨W2,rfl⟩:∃ W2:World,W2=w2:=⟨_,rfl⟩
  go_loopw [11,44] (fun s i wx=>∃ j:Nat,j≤N∧i=.int .i64 j∧s=.int .i64 (twUp P j)∧Below W2.heap.size W2 wx) (fun _ i _=>N-(intOf i).toNat)
  case atStart => exact ⟨0,Nat.zero_le _,rfl,rfl,bR W2⟩
  case round =>
   obtain ⟨j,hj,rfl,rfl,hbx⟩:=hrel
   have Hbx:=Lib.hid hbx
   clear hbx
   by_cases hjl:j<N
   case pos =>
    have hP1:j<P.length:=by have:=HN.out;omega
    have hP2:j+1<P.length:=by have:=HN.out;omega
    obtain ⟨b1,o1,hA1,hlb1,c0,c1'⟩:=(HRP.out.mono Hbx.out).pt hP1
    subst hA1
    obtain ⟨b2,o2,hA2,-,d0,d1⟩:=(HRP.out.mono Hbx.out).pt hP2
    simp only [Option.some.injEq,Addr.mk.injEq,and_true] at hA2
    obtain ⟨rfl,rfl⟩:=hA2
    have g1:=HBig.out _ (List.getElem_mem hP1)
    have g2:=HBig.out _ (List.getElem_mem hP2)
    have x1:=mul_big g1.1 g2.2
    have x2:=mul_big g2.1 g1.2
    have tb:=HTb.out j (by have:=HN.out;omega)
    have tb2:=HTb.out (j+1) (by have:=HN.out;omega)
    have hstep:twUp P (j+1)=twUp P j+(P[j].x*P[j+1].y-P[j+1].x*P[j].y):=by
     rw [twUp]
     unfold crossG
     simp only [List.getD_eq_getElem?_getD,List.getElem?_eq_getElem hP1,List.getElem?_eq_getElem hP2,Option.getD_some]
    rw [hstep] at tb2
    have HStep:=Lib.hid hstep
    clear hstep g1 g2
    generalize P[j]=p1 at *
    generalize P[j+1]=p2 at *
    generalize hT:twUp P j=T at *
    have q1:0≤(j:Int):=by omega
    have q2:(j:Int)<(N:Int)+1:=by omega
    have q3:0≤(j:Int)+1:=by omega
    have q4:(j:Int)+1<(N:Int)+1:=by omega
    have q5:((j:Int)+1).toNat=j+1:=by omega
    have m0:IntKind.i64.wrap ((j:Int)+1)=(j:Int)+1:=IntWalk.i64_in _ (by omega)
    have m1:IntKind.i64.wrap (p1.x*p2.y)=p1.x*p2.y:=IntWalk.i64_in _ (by omega)
    have m2:IntKind.i64.wrap (p2.x*p1.y)=p2.x*p1.y:=IntWalk.i64_in _ (by omega)
    have m3:IntKind.i64.wrap (p1.x*p2.y-p2.x*p1.y)=p1.x*p2.y-p2.x*p1.y:=IntWalk.i64_in _ (by omega)
    have m4:IntKind.i64.wrap (T+(p1.x*p2.y-p2.x*p1.y))=T+(p1.x*p2.y-p2.x*p1.y):=IntWalk.i64_in _ (by omega)
    clear x1 x2 tb tb2 hT hub
    go_upto_region 16 with fail
    refine rg_start (Since wr) (.run 28 0 0 (.done)) (by kernel_rfl) (bD (bR _)) (by kernel_rfl) (by kernel_rfl) (Nat.le_of_ble_eq_true (by kernel_rfl)) ?_
    intro opsR QR Hops HQrg hS
    iterate 28
     apply rg_p;exact Hops;exact rfl;exact hS;exact rfl
     · intro _ hqc;go_simp;try rfl
     try simp only [pu]
    refine rg_done ?_
    refine HQrg.down _ _ ?_
    have hB:Below wr.heap.size wr wr.drew:=hS
    clear hS HQrg Hops
    have Bx:=Lib.hid (bT Hbx.out hB)
    clear hB m0 m1 m2 m3 m4
    go_wp2_with fail
    go_roundw
    case rel => exact ⟨j+1,by omega,by go_num,by rw [HStep.out],Bx.out⟩
    case measure => simp [intOf];omega
   case neg =>
   have hjj:j=N:=by omega
   subst hjj
   have htl:=HTl.out
   have hsz:=HSz.out
   have Bx:=Lib.hid (bT B2.out Hbx.out)
   generalize hT:twUp P j=T at *
   clear hT
   by_cases hneg:d<0
   ·
    have hst:=HSt.out
    rw [if_neg (by omega)] at hst
    have HSt':=Lib.hid hst
    have m1:IntKind.i64.wrap (-T)=-T:=IntWalk.i64_in _ (by omega)
    have m2:IntKind.i64.wrap (n + -T)=n + -T:=IntWalk.i64_in _ (by omega)
    clear hst htl hub hsz
    go_wp2_with fail
    go_roundw
    case rel => exact ⟨k+1,by omega,by go_num,by rw [HSt'.out],Bx.out,HNx.out⟩
    case measure => simp [intOf];omega
   ·
    have hst:=HSt.out
    rw [if_pos (by have:=HNe.out.2;omega)] at hst
    have HSt':=Lib.hid hst
    have m2:IntKind.i64.wrap (n+T)=n+T:=IntWalk.i64_in _ (by omega)
    clear hst htl hub hsz
    go_wp2_with fail
    go_roundw
    case rel => exact ⟨k+1,by omega,by go_num,by rw [HSt'.out],Bx.out,HNx.out⟩
    case measure => simp [intOf];omega

end Go.Proofs.YtnhdmghgjngcaaaGreat
namespace Go.Proofs.YtnhdmghgjngcaaaGreat
open Go.RowKit

def FlatF (F:Int→Int) (K:Nat):Prop:=∀ x,F (pw F x K)=pw F x K
theorem pw_fix {F:Int→Int} {x:Int} {K:Nat} (h:F (pw F x K)=pw F x K) (n:Nat):pw F x (K+n)=pw F x K:=by
 induction n with
 | zero=>rfl
 | succ n ih=>show F (pw F x (K+n))=_;rw [ih,h]
theorem pw_fix2 {F:Int→Int} {x:Int} {i j:Nat} (hi:F (pw F x i)=pw F x i) (hj:F (pw F x j)=pw F x j):pw F x i=pw F x j:=by
 rcases Nat.le_total i j with h | h
 ·
  have:=pw_fix hi (j-i)
  rw [show i+(j-i)=j by omega] at this
  exact this.symm
 ·
  have:=pw_fix hj (i-j)
  rw [show j+(i-j)=i by omega] at this
  exact this
theorem FlatF.more {F:Int→Int} {K M:Nat} (h:FlatF F K) (hm:K≤M):FlatF F M:=by
 intro x
 have:=pw_fix (h x) (M-K)
 rw [show K+(M-K)=M by omega] at this
 rw [this];exact h x
theorem FlatF.eq {F:Int→Int} {K M:Nat} (h:FlatF F K) (hm:K≤M) (x:Int):pw F x M=pw F x K:=pw_fix2 (h.more hm x) (h x)
def linkF (F:Int→Int) (a b:Int) (i:Int):Int:=if i=a then b else F i
theorem link_same {F:Int→Int} {a b x:Int} (n:Nat) (h:∀ j,j<n→pw F x j≠a):pw (linkF F a b) x n=pw F x n:=by
 induction n with
 | zero=>rfl
 | succ n ih =>
  show linkF F a b (pw (linkF F a b) x n)=F (pw F x n)
  rw [ih (fun j hj=>h j (by omega))]
  unfold linkF
  rw [if_neg (h n (by omega))]
theorem first_hit {P:Nat→Prop} [DecidablePred P] : ∀ n,P n→∃ j,j≤n∧P j∧∀ i,i<j→¬ P i
 | 0,h=>⟨0,Nat.le_refl _,h,fun i hi=>by omega⟩
 | n+1,h=>by
  by_cases h2:∃ m,m≤n∧P m
  ·
   obtain ⟨m,hm,hp⟩:=h2
   obtain ⟨j,h1,h3,h4⟩:=first_hit m hp
   exact ⟨j,by omega,h3,h4⟩
  · exact ⟨n+1,Nat.le_refl _,h,fun i hi hp=>h2 ⟨i,by omega,hp⟩⟩
termination_by n=>n
decreasing_by omega
theorem link_pw {F:Int→Int} {K:Nat} (h:FlatF F K) {a b:Int} (ha:F a=a) (hb:F b=b) (hne:a≠b) :
  FlatF (linkF F a b) (K+1)∧∀ x,pw (linkF F a b) x (K+1)=if pw F x K=a then b else pw F x K:=by
 have hfb:linkF F a b b=b:=by unfold linkF;rw [if_neg (fun e=>hne e.symm),hb]
 have key:∀ x,pw (linkF F a b) x (K+1)=if pw F x K=a then b else pw F x K:=by
  intro x
  by_cases hx:pw F x K=a
  ·
   rw [if_pos hx]
   obtain ⟨j,h1,h2,h3⟩:=first_hit (P:=fun j=>pw F x j=a) K hx
   have e1:pw (linkF F a b) x j=a:=by rw [link_same j h3];exact h2
   have e2:pw (linkF F a b) x (j+1)=b:=by
    show linkF F a b (pw (linkF F a b) x j)=b
    rw [e1];unfold linkF;rw [if_pos rfl]
   have e3:linkF F a b (pw (linkF F a b) x (j+1))=pw (linkF F a b) x (j+1):=by rw [e2];exact hfb
   have:=pw_fix e3 (K-j)
   rw [show j+1+(K-j)=K+1 by omega] at this
   rw [this,e2]
  ·
   rw [if_neg hx]
   have hn:∀ j,j<K+1→pw F x j≠a:=by
    intro j hj e
    have e2:F (pw F x j)=pw F x j:=by rw [e];exact ha
    exact hx ((pw_fix2 (h x) e2).trans e)
   rw [link_same (K+1) hn]
   exact pw_fix (h x) 1
 refine ⟨fun x=>?_,key⟩
 rw [key x]
 split
 · exact hfb
 ·
  rename_i hx
  unfold linkF
  rw [if_neg hx];exact h x
def above0 (l:List Nd) (i:Int):Int:=if i∈l.map (·.id) then i else 0
theorem above0_flat (l:List Nd):FlatF (above0 l) 1:=by
 intro x
 show above0 l (above0 l x)=above0 l x
 unfold above0
 by_cases h:x∈l.map (·.id)
 · rw [if_pos h,if_pos h]
 · rw [if_neg h];split<;>rfl
def eulStep (K:Nat) (s:(Int→Int)×Int) (a:Ar):(Int→Int)×Int :=
 if pw s.1 a.fr K=pw s.1 a.dst K then s else (linkF s.1 (pw s.1 a.fr K) (pw s.1 a.dst K),s.2-1)
def eulSt (p:Pl) (k:Nat):(Int→Int)×Int:=(p.arcs.take k).foldl (eulStep (p.arcs.length+1)) (above0 p.nodes,(p.nodes.length:Int))
theorem eulSt_succ (p:Pl) (k:Nat) (hk:k<p.arcs.length):eulSt p (k+1)=eulStep (p.arcs.length+1) (eulSt p k) p.arcs[k]:=by
 unfold eulSt
 rw [List.take_succ_eq_append_getElem hk,List.foldl_append]
 rfl
structure EulOK (p:Pl) (k:Nat) (s:(Int→Int)×Int):Prop where
 flat:FlatF s.1 (k+1)
 bd:∀ x,-1073741824≤s.1 x∧s.1 x≤1073741824
 lo:(p.nodes.length:Int)-k≤s.2
 hi:s.2≤p.nodes.length
theorem eul_ok {p:Pl} (h:Valid p) (k:Nat) (hk:k≤p.arcs.length):EulOK p k (eulSt p k):=by
 induction k with
 | zero =>
  refine ⟨above0_flat _,fun x=>?_,by simp [eulSt],by simp [eulSt]⟩
  show -1073741824≤above0 p.nodes x∧above0 p.nodes x≤1073741824
  unfold above0
  split
  ·
   rename_i hm
   obtain ⟨n,hn,rfl⟩:=List.mem_map.1 hm
   have:=h.nid_pos hn
   omega
  · omega
 | succ k ih =>
  obtain ⟨h1,h2,h3,h4⟩:=ih (by omega)
  rw [eulSt_succ p k (by omega)]
  generalize eulSt p k=s at *
  unfold eulStep
  split
  · exact ⟨h1.more (by omega),h2,by omega,h4⟩
  ·
   rename_i hne
   have e1:∀ x,s.1 (pw s.1 x (p.arcs.length+1))=pw s.1 x (p.arcs.length+1):=h1.more (by omega)
   refine ⟨(link_pw h1 (e1 _) (e1 _) hne).1,fun x=>?_,by show _≤s.2-1;omega,by show s.2-1≤_;omega⟩
   show -1073741824≤linkF _ _ _ x∧linkF _ _ _ x≤1073741824
   unfold linkF
   split
   · rw [← e1];exact h2 _
   · exact h2 _
end Go.Proofs.YtnhdmghgjngcaaaGreat
namespace Go.Proofs.YtnhdmghgjngcaaaGreat
open Go.RowKit

def hY (p:Pt):Int:=8388608*p.y+p.x
theorem hY_inj {a b:Pt} (ha:near1 a=true) (hb:near1 b=true) (h:hY a=hY b):a=b:=by
 rw [near1_iff] at ha hb
 unfold hY at h
 rw [Pt.ext_iff']
 omega
instance (ux uy vx vy:Int):Decidable (ltV ux uy vx vy):=by unfold ltV lowV;infer_instance
instance (o a b:Pt):Decidable (dirLt o a b):=by unfold dirLt;infer_instance
def cr1 (a b v:Pt):Int:=if hY a<hY v∧hY v<hY b∧0<tw a b v then 1 else if hY b<hY v∧hY v<hY a∧0<tw b a v then -1 else 0
theorem cr1_neg (a b v:Pt):cr1 b a v=-cr1 a b v:=by
 unfold cr1
 by_cases h1:hY a<hY v∧hY v<hY b∧0<tw a b v
 · rw [if_pos h1,if_neg (by omega),if_pos h1]
 ·
  rw [if_neg h1]
  by_cases h2:hY b<hY v∧hY v<hY a∧0<tw b a v
  · rw [if_pos h2,if_neg h1,if_pos h2];rfl
  · rw [if_neg h2,if_neg h1,if_neg h2];rfl
def wnE (s t v:Pt):Int:=if hY s<hY v∧hY v<hY t∧tw s t v<0 then 1 else 0

theorem tw_i1 (a b s t:Pt):tw a b s*(hY t-hY b)+tw a b t*(hY b-hY s)=-((hY b-hY a)*tw s t b):=by unfold tw hY;grind
theorem tw_i2 (a b s t:Pt):tw a b s*(hY t-hY a)+tw a b t*(hY a-hY s)=-((hY b-hY a)*tw s t a):=by unfold tw hY;grind
theorem tw_d (a b s t:Pt):tw a b t-tw a b s=tw s t a-tw s t b:=by unfold tw;grind
theorem cross_d (a b s t:Pt):crossS a b s t=tw a b t-tw a b s:=by unfold tw crossS;grind
theorem cross_a (a s t:Pt):crossS a s s t=tw s t a:=by unfold tw crossS;grind
theorem cross_b (a b s:Pt):crossS a s a b=-tw a b s:=by unfold tw crossS;grind
theorem tw_anti (a b c:Pt):tw a c b=-tw a b c:=by unfold tw;grind
theorem tw_rot (a b c:Pt):tw b c a=tw a b c:=by unfold tw;grind
theorem tw_aba (a b:Pt):tw a b a=0:=by unfold tw;grind
theorem tw_abb (a b:Pt):tw a b b=0:=by unfold tw;grind
theorem no_meet {a b s t:Pt} (hab:a≠b) (h:rmeetN a b s t=0) (hd:tw a b t-tw a b s≠0) :
  ¬ (tw a b s≤0∧0≤tw a b t∧tw s t b≤0∧0≤tw s t a)∧¬ (0≤tw a b s∧tw a b t≤0∧0≤tw s t b∧tw s t a≤0):=by
 have e:=tw_d a b s t
 unfold rmeetN at h
 rw [if_neg (fun h=>hab h.1),cross_a a s t,cross_b a b s,cross_d a b s t,if_neg hd] at h
 split at h
 ·
  split at h
  · cases h
  · omega
 ·
  split at h
  · cases h
  · omega
def NMt (a b s t:Pt):Prop:=tw a b t-tw a b s≠0→¬ (tw a b s≤0∧0≤tw a b t∧tw s t b≤0∧0≤tw s t a)∧¬ (0≤tw a b s∧tw a b t≤0∧0≤tw s t b∧tw s t a≤0)
theorem NMt.of {a b s t:Pt} (hab:a≠b) (h:rmeetN a b s t=0):NMt a b s t:=no_meet hab h
theorem NMt.comm {a b s t:Pt} (h:NMt a b s t):NMt s t a b:=by
 intro hd
 have e:=tw_d a b s t
 have:=h (by omega)
 omega
theorem NMt.flip {a b s t:Pt} (h:NMt a b s t):NMt b a s t:=by
 intro hd
 have e1:tw b a s=-tw a b s:=by unfold tw;grind
 have e2:tw b a t=-tw a b t:=by unfold tw;grind
 have:=h (by omega)
 omega
theorem sgD (x:Int) {y z:Int} (h:y<z):(0<x*z-x*y↔0<x)∧(x*z-x*y<0↔x<0):=by
 rw [← Int.mul_sub]
 have hp:0<z-y:=by omega
 rcases Int.lt_trichotomy x 0 with h1 | h1 | h1
 · have:=Int.mul_neg_of_neg_of_pos h1 hp;omega
 · subst h1;simp
 · have:=Int.mul_pos h1 hp;omega
theorem four_ways {a b s t:Pt} (hab:hY a<hY b) (hst:hY s<hY t) (h:NMt a b s t) :
  (hY a<hY s→hY s<hY b→hY b<hY t→(0<tw a b s↔tw s t b<0)) ∧
  (hY a<hY s→hY t<hY b→(0<tw a b s↔0<tw a b t)) ∧
  (hY s<hY a→hY b<hY t→(tw s t a<0↔tw s t b<0)) ∧
  (hY s<hY a→hY a<hY t→hY t<hY b→(0<tw a b t↔tw s t a<0)):=by
 have e:=tw_d a b s t
 have i1:=tw_i1 a b s t
 have i2:=tw_i2 a b s t
 have j1:=tw_i1 s t a b
 have j2:=tw_i2 s t a b
 have nm:=h
 unfold NMt at nm
 clear h
 generalize tw a b s=u1 at *
 generalize tw a b t=u2 at *
 generalize tw s t a=u3 at *
 generalize tw s t b=u4 at *
 generalize hY a=A at *
 generalize hY b=B at *
 generalize hY s=S at *
 generalize hY t=T at *
 rw [Int.mul_sub,Int.mul_sub,Int.mul_comm (B-A),Int.mul_sub] at i1 i2
 rw [Int.mul_sub,Int.mul_sub,Int.mul_comm (T-S),Int.mul_sub] at j1 j2
 have g1:=sgD u1 hst;have g2:=sgD u2 hst;have g3:=sgD u3 hab;have g4:=sgD u4 hab
 refine ⟨fun h1 h2 h3=>?_,fun h1 h2=>?_,fun h1 h2=>?_,fun h1 h2 h3=>?_⟩
 ·
  have f1:=sgD u1 h3;have f2:=sgD u2 h2;have f3:=sgD u1 (show A<T by omega);have f4:=sgD u2 h1
  by_cases hd:u2-u1=0
  ·
   have:u1=u2:=by omega
   subst this
   omega
  ·
   have:=nm hd
   omega
 ·
  have f1:=sgD u1 h2;have f2:=sgD u2 (show S<B by omega);have f3:=sgD u1 (show A<T by omega);have f4:=sgD u2 h1
  by_cases hd:u2-u1=0
  · omega
  ·
   have:=nm hd
   omega
 ·
  have f1:=sgD u3 h2;have f2:=sgD u4 (show A<T by omega);have f3:=sgD u3 (show S<B by omega);have f4:=sgD u4 h1
  by_cases hd:u2-u1=0
  · omega
  ·
   have:=nm hd
   omega
 ·
  have f1:=sgD u1 h3;have f2:=sgD u2 (show S<B by omega);have f3:=sgD u1 h2;have f4:=sgD u2 h1
  by_cases hd:u2-u1=0
  ·
   have:u1=u2:=by omega
   subst this
   have f5:=sgD u1 (show S<T by omega)
   omega
  ·
   have:=nm hd
   omega
theorem lowY_iff {o p:Pt} (ho:near1 o=true) (hp:near1 p=true):lowV (p.x-o.x) (p.y-o.y)↔hY p<hY o:=by
 rw [near1_iff] at ho hp
 unfold lowV hY
 omega
theorem dirLt_iff {o a b:Pt} (ho:near1 o=true) (ha:near1 a=true) (hb:near1 b=true):dirLt o a b↔(¬ hY a<hY o∧hY b<hY o)∨((hY a<hY o↔hY b<hY o)∧0<tw o a b):=by
 unfold dirLt ltV
 rw [lowY_iff ho ha,lowY_iff ho hb]
 rfl
theorem edge_up {a b s t:Pt} (na:near1 a=true) (nb:near1 b=true) (ns:near1 s=true) (nt:near1 t=true) (hab:hY a<hY b) (hst:hY s<hY t)
  (hno:a≠s→a≠t→b≠s→b≠t→NMt a b s t) :
  cr1 a b s+(if a=s∧dirLt s b t then 1 else 0)-(if b=s∧dirLt s a t then 1 else 0)-(cr1 a b t-(if a=t∧dirLt t s b then 1 else 0)+(if b=t∧dirLt t s a then 1 else 0))=wnE s t b-wnE s t a:=by
 have hne:a≠b:=fun e=>by rw [e] at hab;omega
 have d1:=dirLt_iff ns nb nt;have d2:=dirLt_iff ns na nt;have d3:=dirLt_iff nt ns nb;have d4:=dirLt_iff nt ns na
 have q:∀ {u v:Pt},near1 u=true→near1 v=true→(u=v↔hY u=hY v):=fun hu hv=>⟨fun e=>by rw [e],hY_inj hu hv⟩
 have e1:tw s b t=-tw s t b:=tw_anti s t b
 have e2:tw t s a=-tw s t a:=by unfold tw;grind
 have f1:hY a=hY s→tw a b s=0∧tw s t a=0∧tw a b t=-tw s t b:=fun h=>by
  have:=hY_inj na ns h
  subst this
  exact ⟨tw_aba a b,tw_aba a t,e1⟩
 have f2:hY b=hY t→tw a b t=0∧tw s t b=0∧tw a b s=-tw s t a:=fun h=>by
  have:=hY_inj nb nt h
  subst this
  exact ⟨tw_abb a b,tw_abb s b,by unfold tw;grind⟩
 have f3:hY a≠hY s→hY a≠hY t→hY b≠hY s→hY b≠hY t→_:=fun h1 h2 h3 h4=>four_ways (s:=s) (t:=t) hab hst (hno (fun e=>h1 (by rw [e])) (fun e=>h2 (by rw [e])) (fun e=>h3 (by rw [e])) (fun e=>h4 (by rw [e])))
 have k1:(a=s∧dirLt s b t)↔(hY a=hY s∧tw s t b<0):=by rw [d1,q na ns,e1];constructor<;>(rintro ⟨h1,h2⟩;exact ⟨h1,by omega⟩)
 have k2:¬ (b=s∧dirLt s a t):=by rw [d2,q nb ns];rintro ⟨h1,h2⟩;omega
 have k3:¬ (a=t∧dirLt t s b):=by rw [d3,q na nt];rintro ⟨h1,h2⟩;omega
 have k4:(b=t∧dirLt t s a)↔(hY b=hY t∧tw s t a<0):=by rw [d4,q nb nt,e2];constructor<;>(rintro ⟨h1,h2⟩;exact ⟨h1,by omega⟩)
 have m1:cr1 a b s=if hY a<hY s∧hY s<hY b∧0<tw a b s then 1 else 0:=by unfold cr1;rw [if_neg (show ¬ (hY b<hY s∧hY s<hY a∧0<tw b a s) by omega)]
 have m2:cr1 a b t=if hY a<hY t∧hY t<hY b∧0<tw a b t then 1 else 0:=by unfold cr1;rw [if_neg (show ¬ (hY b<hY t∧hY t<hY a∧0<tw b a t) by omega)]
 rw [m1,m2,if_neg k2,if_neg k3]
 unfold wnE
 simp only [k1,k4]
 clear hno d1 d2 d3 d4 e1 e2 q na nb ns nt hne k1 k2 k3 k4 m1 m2
 generalize tw a b s=u1 at *
 generalize tw a b t=u2 at *
 generalize tw s t a=u3 at *
 generalize tw s t b=u4 at *
 generalize hY a=A at *
 generalize hY b=B at *
 generalize hY s=S at *
 generalize hY t=T at *
 rcases Int.lt_trichotomy A S with h1 | h1 | h1
 ·
  clear f1
  rcases Int.lt_trichotomy B S with h3 | h3 | h3
  ·
   clear f2 f3
   rw [if_neg (by omega),if_neg (by omega),if_neg (by omega),if_neg (by omega),if_neg (by omega),if_neg (by omega)];rfl
  ·
   clear f2 f3
   rw [if_neg (by omega),if_neg (by omega),if_neg (by omega),if_neg (by omega),if_neg (by omega),if_neg (by omega)];rfl
  ·
   rcases Int.lt_trichotomy B T with h2 | h2 | h2
   ·
    have f3:=(f3 (by omega) (by omega) (by omega) (by omega)).1 h1 h3 h2
    clear f2
    simp only [h1,h3,h2,true_and,f3,show ¬ A=S by omega,show ¬ T<B by omega,show ¬ B=T by omega,show ¬ S<A by omega,false_and,and_false,if_false]
    omega
   ·
    obtain ⟨-,-,f2⟩:=f2 h2
    clear f3
    simp only [h1,h3,h2,true_and,show ¬ A=S by omega,show ¬ S<A by omega,show ¬ T<T by omega,show A<T by omega,hst,false_and,and_false,if_false]
    split<;>split<;>omega
   ·
    have f3:=(f3 (by omega) (by omega) (by omega) (by omega)).2.1 h1 h2
    clear f2
    simp only [h1,h3,h2,true_and,f3,show ¬ A=S by omega,show ¬ S<A by omega,show ¬ B<T by omega,show ¬ B=T by omega,show A<T by omega,false_and,and_false,if_false]
    omega
 ·
  obtain ⟨f1a,f1b,f1⟩:=f1 h1
  clear f3
  subst h1
  rcases Int.lt_trichotomy B T with h2 | h2 | h2
  ·
   clear f2
   simp only [hab,h2,true_and,show ¬ A<A by omega,show ¬ B=T by omega,show ¬ T<B by omega,false_and,and_false,if_false]
   omega
  ·
   obtain ⟨f2a,f2b,f2⟩:=f2 h2
   subst h2
   simp only [hab,true_and,show ¬ A<A by omega,show ¬ B<B by omega,false_and,and_false,if_false]
   split<;>split<;>omega
  ·
   clear f2
   simp only [hab,hst,h2,true_and,show ¬ A<A by omega,show ¬ B=T by omega,show ¬ B<T by omega,false_and,and_false,if_false]
   split<;>split<;>omega
 ·
  clear f1
  rcases Int.lt_trichotomy A T with h3 | h3 | h3
  ·
   rcases Int.lt_trichotomy B T with h2 | h2 | h2
   ·
    have f3:=(f3 (by omega) (by omega) (by omega) (by omega)).2.2.1 h1 h2
    clear f2
    simp only [h1,h2,h3,true_and,f3,show ¬ A<S by omega,show ¬ A=S by omega,show ¬ T<B by omega,show ¬ B=T by omega,show S<B by omega,false_and,and_false,if_false]
    omega
   ·
    clear f2 f3
    subst h2
    simp only [h1,h3,hst,true_and,show ¬ A<S by omega,show ¬ A=S by omega,show ¬ B<B by omega,false_and,and_false,if_false]
    omega
   ·
    have f3:=(f3 (by omega) (by omega) (by omega) (by omega)).2.2.2 h1 h3 h2
    clear f2
    simp only [h1,h2,h3,true_and,f3,show ¬ A<S by omega,show ¬ A=S by omega,show ¬ B<T by omega,show ¬ B=T by omega,false_and,and_false,if_false]
    omega
  ·
   clear f2 f3
   rw [if_neg (by omega),if_neg (by omega),if_neg (by omega),if_neg (by omega),if_neg (by omega),if_neg (by omega)];rfl
  ·
   clear f2 f3
   rw [if_neg (by omega),if_neg (by omega),if_neg (by omega),if_neg (by omega),if_neg (by omega),if_neg (by omega)];rfl
end Go.Proofs.YtnhdmghgjngcaaaGreat
namespace Go.Proofs.YtnhdmghgjngcaaaGreat
open Go.RowKit

section
variable {α β:Type}
theorem sumC (l:List α) (f g:α→Int) (h:∀ x∈l,f x=g x):(l.map f).sum=(l.map g).sum:=by rw [List.map_congr_left h]
theorem sumZ (l:List α) (f:α→Int) (h:∀ x∈l,f x=0):(l.map f).sum=0:=by
 induction l with
 | nil=>rfl
 | cons a l ih=>rw [List.map_cons,List.sum_cons,h a (by simp),ih (fun x hx=>h x (by simp [hx]))];rfl
theorem sumA (l:List α) (f g:α→Int):(l.map fun x=>f x+g x).sum=(l.map f).sum+(l.map g).sum:=by
 induction l with
 | nil=>rfl
 | cons a l ih=>simp only [List.map_cons,List.sum_cons,ih];omega
theorem sumN (l:List α) (f:α→Int):(l.map fun x=>-f x).sum=-(l.map f).sum:=by
 induction l with
 | nil=>rfl
 | cons a l ih=>simp only [List.map_cons,List.sum_cons,ih];omega
theorem sumM (l:List α) (c:Int) (f:α→Int):(l.map fun x=>c*f x).sum=c*(l.map f).sum:=by
 induction l with
 | nil=>simp
 | cons a l ih=>simp only [List.map_cons,List.sum_cons,ih,Int.mul_add]
theorem sumS (l:List α) (m:List β) (f:α→β→Int):(l.map fun x=>(m.map fun y=>f x y).sum).sum=(m.map fun y=>(l.map fun x=>f x y).sum).sum:=by
 induction l with
 | nil=>simp only [List.map_nil,List.sum_nil];rw [sumZ m _ (fun _ _=>rfl)]
 | cons a l ih=>simp only [List.map_cons,List.sum_cons,ih];rw [sumA]
theorem sumOne (n j:Nat) (f:Nat→Int) (h:∀ k,k<n→k≠j→f k=0):((List.range n).map f).sum=if j<n then f j else 0:=by
 induction n with
 | zero=>rfl
 | succ n ih =>
  rw [List.range_succ,List.map_append,List.sum_append,ih (fun k hk=>h k (by omega))]
  simp only [List.map_cons,List.map_nil,List.sum_cons,List.sum_nil,Int.add_zero]
  by_cases hj:j=n
  · subst hj;rw [if_neg (by omega),if_pos (by omega)];omega
  ·
   rw [h n (by omega) (fun e=>hj e.symm)]
   by_cases h2:j<n
   · rw [if_pos h2,if_pos (by omega)];omega
   · rw [if_neg h2,if_neg (by omega)];rfl
theorem sumT (n:Nat) (R:Nat→Int):((List.range n).map fun k=>R (k+1)-R k).sum=R n-R 0:=by
 induction n with
 | zero=>simp
 | succ n ih =>
  rw [List.range_succ,List.map_append,List.sum_append,ih]
  simp only [List.map_cons,List.map_nil,List.sum_cons,List.sum_nil]
  omega
theorem sumH (l:List α) (k:α→Int) (hk:(l.map k).Pairwise (· < ·)) (r:Int→Int) (x:Int) (hx:∃ y∈l,k y=x):(l.map fun y=>if x=k y then r (k y) else 0).sum=r x:=by
 induction l with
 | nil=>obtain ⟨y,hy,-⟩:=hx;cases hy
 | cons a l ih =>
  rw [List.map_cons,List.pairwise_cons] at hk
  rw [List.map_cons,List.sum_cons]
  by_cases e:x=k a
  · rw [if_pos e,sumZ l _ (fun y hy=>if_neg (fun e2=>by have:=hk.1 (k y) (List.mem_map_of_mem hy);omega)),e];omega
  ·
   rw [if_neg e,ih hk.2 (by
    obtain ⟨y,hy,e2⟩:=hx
    rcases List.mem_cons.1 hy with rfl | hy
    · exact absurd e2.symm e
    · exact ⟨y,hy,e2⟩)]
   omega
end
def stp (f:Pt→Pt→Int) (l:List Pt):Int:=((List.range (l.length-1)).map fun k=>f (l.getD k pt0) (l.getD (k+1) pt0)).sum
def wnS (p:Pl) (z:Int→Int) (f:Pt→Pt→Int):Int:=(p.arcs.map fun a=>z a.id*stp f (pathS p a)).sum
theorem wnS_add (p:Pl) (z:Int→Int) (f g:Pt→Pt→Int):wnS p z (fun a b=>f a b+g a b)=wnS p z f+wnS p z g:=by
 unfold wnS stp
 rw [← sumA]
 exact sumC _ _ _ fun a _=>by rw [sumA,Int.mul_add]
theorem wnS_neg (p:Pl) (z:Int→Int) (f:Pt→Pt→Int):wnS p z (fun a b=>-f a b)=-wnS p z f:=by
 unfold wnS stp
 rw [← sumN]
 exact sumC _ _ _ fun a _=>by rw [sumN,Int.mul_neg]
theorem wnS_sub (p:Pl) (z:Int→Int) (f g:Pt→Pt→Int):wnS p z (fun a b=>f a b-g a b)=wnS p z f-wnS p z g:=by
 have:=wnS_add p z f (fun a b=>-g a b)
 rw [wnS_neg] at this
 simp only [← Int.sub_eq_add_neg] at this
 exact this
theorem wnS_congr {p:Pl} {z:Int→Int} {f g:Pt→Pt→Int} (h:∀ a∈p.arcs,∀ k,k+1<(pathS p a).length→f ((pathS p a).getD k pt0) ((pathS p a).getD (k+1) pt0)=g ((pathS p a).getD k pt0) ((pathS p a).getD (k+1) pt0)):wnS p z f=wnS p z g:=by
 unfold wnS stp
 refine sumC _ _ _ fun a ha=>?_
 congr 1
 exact sumC _ _ _ fun k hk=>h a ha k (by have:=List.mem_range.1 hk;omega)
def ClosedC (p:Pl) (z:Int→Int):Prop:=∀ n∈p.nodes,(p.arcs.map fun a=>z a.id*((if a.dst=n.id then 1 else 0)-(if a.fr=n.id then 1 else 0))).sum=0
theorem path_end (p:Pl) (a:Ar):(pathS p a).getD ((pathS p a).length-1) pt0=nodeAt p a.dst:=by
 rw [pathS_length]
 unfold pathS
 show (nodeAt p a.fr::(a.via++[nodeAt p a.dst])).getD (a.via.length+1) pt0=_
 rw [List.getD_cons_succ,List.getD_eq_getElem?_getD,List.getElem?_append_right (by omega)]
 simp
section
variable {p:Pl} (h:Valid p)
include h
theorem Valid.closed_sum {z:Int→Int} (hz:ClosedC p z) (r:Int→Int):(p.arcs.map fun a=>z a.id*(r a.dst-r a.fr)).sum=0:=by
 have e:(p.arcs.map fun a=>z a.id*(r a.dst-r a.fr)).sum=(p.arcs.map fun a=>(p.nodes.map fun n=>r n.id*(z a.id*((if a.dst=n.id then 1 else 0)-(if a.fr=n.id then 1 else 0)))).sum).sum:=by
  refine sumC _ _ _ fun a ha=>?_
  obtain ⟨n1,h1,e1,-⟩:=h.sound.at_fr ha
  obtain ⟨n2,h2,e2,-⟩:=h.sound.at_dst ha
  have s1:=sumH p.nodes (·.id) h.sound.nodes r a.fr ⟨n1,h1,e1⟩
  have s2:=sumH p.nodes (·.id) h.sound.nodes r a.dst ⟨n2,h2,e2⟩
  rw [← s1,← s2,Int.sub_eq_add_neg,← sumN,← sumA,← sumM]
  refine sumC _ _ _ fun n _=>?_
  by_cases c1:a.dst=n.id<;>by_cases c2:a.fr=n.id<;>simp only [c1,c2,if_true,if_false]<;>grind
 rw [e,sumS]
 refine sumZ _ _ fun n hn=>?_
 rw [sumM,hz n hn,Int.mul_zero]
theorem Valid.tele {z:Int→Int} (hz:ClosedC p z) (R:Pt→Int):wnS p z (fun a b=>R b-R a)=0:=by
 rw [← h.closed_sum hz (fun i=>R (nodeAt p i))]
 unfold wnS stp
 refine sumC _ _ _ fun a _=>?_
 rw [sumT ((pathS p a).length-1) (fun k=>R ((pathS p a).getD k pt0)),path_end,path_0]
theorem Valid.seg_NM {a b:Ar} (ha:a∈p.arcs) (hb:b∈p.arcs) {k m:Nat} (hk:k+1<(pathS p a).length) (hm:m+1<(pathS p b).length)
  (h1:(pathS p a).getD k pt0≠(pathS p b).getD m pt0) (h2:(pathS p a).getD k pt0≠(pathS p b).getD (m+1) pt0) (h3:(pathS p a).getD (k+1) pt0≠(pathS p b).getD m pt0) (h4:(pathS p a).getD (k+1) pt0≠(pathS p b).getD (m+1) pt0) :
  NMt ((pathS p a).getD k pt0) ((pathS p a).getD (k+1) pt0) ((pathS p b).getD m pt0) ((pathS p b).getD (m+1) pt0):=by
 have hnear:∀ {c d:Ar} {i j:Nat},c∈p.arcs→d∈p.arcs→i+1<(pathS p c).length→j+1<(pathS p d).length→nears [(pathS p c).getD i pt0,(pathS p c).getD (i+1) pt0,(pathS p d).getD j pt0,(pathS p d).getD (j+1) pt0]=true:=fun hc hd hi hj =>
  near4 (h.pt_near hc (by omega)) (h.pt_near hc hi) (h.pt_near hd (by omega)) (h.pt_near hd hj)
 have same:∀ {i j:Nat},i<j→j+1<(pathS p a).length→(pathS p a).getD i pt0≠(pathS p a).getD (j+1) pt0→(pathS p a).getD (i+1) pt0≠(pathS p a).getD j pt0→NMt ((pathS p a).getD i pt0) ((pathS p a).getD (i+1) pt0) ((pathS p a).getD j pt0) ((pathS p a).getD (j+1) pt0):=by
  intro i j hij hj n1 n2
  have hap:=h.segs.2.1 a ha i j hij hj
  unfold apartS segK at hap
  simp only at hap
  rw [if_neg] at hap
  ·
   rw [beq_iff_eq] at hap
   unfold rmeetS at hap
   rw [if_pos (hnear ha ha (by omega) hj)] at hap
   exact NMt.of (h.distinct ha (k:=i) (by omega)).1 hap
  ·
   rintro (e | ⟨e1,e2,e3⟩)
   · subst e;exact n2 rfl
   ·
    subst e1
    apply n1
    have hl:=path_end p a
    rw [show (pathS p a).length-1=j+1 by omega] at hl
    rw [hl,path_0,e3]
 by_cases hab:a=b
 ·
  subst hab
  rcases Nat.lt_trichotomy k m with hkm | hkm | hkm
  · exact same hkm hm h2 h3
  · subst hkm;exact absurd rfl h1
  · exact (same hkm hk (fun e=>h3 e.symm) (fun e=>h2 e.symm)).comm
 ·
  have other:∀ {c d:Ar} {i j:Nat},c∈p.arcs→d∈p.arcs→i+1<(pathS p c).length→j+1<(pathS p d).length→joinedS p (segK p c i) (segK p d j)=true →
    (pathS p c).getD i pt0≠(pathS p d).getD j pt0→(pathS p c).getD i pt0≠(pathS p d).getD (j+1) pt0→(pathS p c).getD (i+1) pt0≠(pathS p d).getD j pt0→(pathS p c).getD (i+1) pt0≠(pathS p d).getD (j+1) pt0 →
    NMt ((pathS p c).getD i pt0) ((pathS p c).getD (i+1) pt0) ((pathS p d).getD j pt0) ((pathS p d).getD (j+1) pt0):=by
   intro c d i j hc hd hi hj hjo n1 n2 n3 n4
   unfold joinedS at hjo
   split at hjo
   ·
    exfalso
    obtain ⟨n,hn,hat⟩:=List.any_eq_true.1 hjo
    unfold meetAt at hat
    simp only [Bool.and_eq_true] at hat
    have at_end:∀ {c:Ar} {i:Nat},c∈p.arcs→i+1<(pathS p c).length→ronS (segK p c i).a (segK p c i).b n.pt=true→(pathS p c).getD i pt0=n.pt∨(pathS p c).getD (i+1) pt0=n.pt:=by
     intro c i hc hi ho
     rcases h.on_end hc hi hn ho with ⟨e1,e2⟩ | ⟨e1,e2⟩
     · left;subst e1;rw [path_0,e2];exact h.sound.node_eq hn
     ·
      right
      have hl:=path_end p c
      rw [pathS_length,show c.via.length+2-1=i+1 by omega] at hl
      rw [hl,e2];exact h.sound.node_eq hn
    rcases at_end hc hi hat.1.2 with e1 | e1<;>rcases at_end hd hj hat.2 with e2 | e2
    · exact n1 (e1.trans e2.symm)
    · exact n2 (e1.trans e2.symm)
    · exact n3 (e1.trans e2.symm)
    · exact n4 (e1.trans e2.symm)
   ·
    rw [beq_iff_eq] at hjo
    unfold rmeetS segK at hjo
    rw [if_pos (hnear hc hd hi hj)] at hjo
    exact NMt.of (h.distinct hc hi).1 hjo
  have hpw:=h.segs.2.2
  obtain ⟨i,hi,rfl⟩:=List.mem_iff_getElem.1 ha
  obtain ⟨j,hj,rfl⟩:=List.mem_iff_getElem.1 hb
  rw [List.pairwise_iff_getElem] at hpw
  rcases Nat.lt_trichotomy i j with hij | hij | hij
  · exact other ha hb hk hm (hpw i j hi hj hij k hk m hm) h1 h2 h3 h4
  · subst hij;exact absurd rfl hab
  · exact (other hb ha hm hk (hpw j i hj hi hij m hm k hk) (fun e=>h1 e.symm) (fun e=>h3 e.symm) (fun e=>h2 e.symm) (fun e=>h4 e.symm)).comm
end
end Go.Proofs.YtnhdmghgjngcaaaGreat
namespace Go.Proofs.YtnhdmghgjngcaaaGreat
open Go.RowKit

theorem ron_flip (a b q:Pt):ronS b a q=ronS a b q:=by
 unfold ronS
 have hn:nears [b,a,q]=nears [a,b,q]:=by rw [Bool.eq_iff_iff];simp [nears];constructor<;>(rintro ⟨h1,h2,h3⟩;exact ⟨h2,h1,h3⟩)
 have e1:crossS b a b q=- crossS a b a q:=by unfold crossS;grind
 have e2:dotS b q a q=dotS a q b q:=by unfold dotS;grind
 rw [hn,e1,e2]
 have:decide (-crossS a b a q=0)=decide (crossS a b a q=0):=by
  rw [Bool.eq_iff_iff];simp
 rw [this]
theorem rmeet_flip (a b c d:Pt):rmeetS b a c d=rmeetS a b c d:=by
 unfold rmeetS
 have hn:nears [b,a,c,d]=nears [a,b,c,d]:=by rw [Bool.eq_iff_iff];simp [nears];constructor<;>(rintro ⟨h1,h2,h3,h4⟩;exact ⟨h2,h1,h3,h4⟩)
 rw [hn]
 split
 case isFalse => rfl
 unfold rmeetN
 have e0:crossS b a c d=- crossS a b c d:=by unfold crossS;grind
 have e1:crossS b a b c=- crossS a b a c:=by unfold crossS;grind
 have e2:crossS b a b d=- crossS a b a d:=by unfold crossS;grind
 have e3:crossS b c c d=crossS a c c d-crossS a b c d:=by unfold crossS;grind
 have e4:crossS b c b a=- crossS a c a b:=by unfold crossS;grind
 rw [e0,e1,e2,e3,e4,← sharedS_flip a b c d]
 by_cases h1:a=b∧c=d∧¬ a=c
 · rw [if_pos h1,if_pos ⟨h1.1.symm,h1.2.1,by rw [← h1.1];exact h1.2.2⟩]
 rw [if_neg h1,if_neg (show ¬ (b=a∧c=d∧¬ b=c) from fun e=>h1 ⟨e.1.symm,e.2.1,by rw [← e.1];exact e.2.2⟩)]
 generalize crossS a b c d=n at *
 by_cases h0:n=0
 ·
  rw [if_pos h0,if_pos (show -n=0 by omega)]
  have:((-crossS a b a c=0∧-crossS a b a d=0∧crossS c d c b=0∧crossS c d c a=0)↔(crossS a b a c=0∧crossS a b a d=0∧crossS c d c a=0∧crossS c d c b=0)):=by omega
  simp only [this]
 ·
  rw [if_neg h0,if_neg (show ¬ -n=0 by omega)]
  by_cases hn':n<0
  ·
   rw [if_pos hn',if_neg (show ¬ -n<0 by omega)]
   congr 1
   simp only [eq_iff_iff]
   omega
  ·
   rw [if_neg hn',if_pos (show -n<0 by omega)]
   congr 1
   simp only [eq_iff_iff]
   omega
theorem rmeet_flip2 (a b c d:Pt):rmeetS a b d c=rmeetS a b c d:=by rw [rmeetS_comm a b d c,rmeet_flip,rmeetS_comm]

def ArcGood (p:Pl) (a:Ar):Prop:=(∀ k,k+1<(pathS p a).length→aloneS p (segK p a k)=true)∧(∀ k m,k<m→m+1<(pathS p a).length→apartS (segK p a k) (segK p a m)=true)
def ArcPair (p:Pl) (a b:Ar):Prop:=∀ k,k+1<(pathS p a).length→∀ m,m+1<(pathS p b).length→joinedS p (segK p a k) (segK p b m)=true
theorem segsOf_iff {p:Pl} {a:Ar} {s:Sg}:s∈segsOf a (pathS p a)↔∃ k,k+1<(pathS p a).length∧s=segK p a k:=by
 unfold segsOf
 rw [List.mem_map]
 constructor
 · rintro ⟨k,hk,rfl⟩;have:=List.mem_range.1 hk;exact ⟨k,by omega,rfl⟩
 · rintro ⟨k,hk,rfl⟩;exact ⟨k,List.mem_range.2 (by omega),rfl⟩
theorem planar_iff (p:Pl) (hs:(p.arcs.map (·.id)).Pairwise (· < ·)):planarR p=true↔(∀ a∈p.arcs,ArcGood p a)∧p.arcs.Pairwise (ArcPair p):=by
 rw [List.pairwise_map] at hs
 unfold planarR
 rw [triB_iff]
 unfold segsS
 rw [List.pairwise_flatMap]
 constructor
 ·
  rintro ⟨h1,h2,h3⟩
  refine ⟨fun a ha=>⟨fun k hk=>h1 _ (List.mem_flatMap.2 ⟨a,ha,segK_mem hk⟩),fun k m hkm hm=>?_⟩,?_⟩
  ·
   have h4:=h2 a ha
   unfold segsOf at h4
   rw [List.pairwise_map,List.pairwise_iff_getElem] at h4
   have h5:=h4 k m (by rw [List.length_range];omega) (by rw [List.length_range];omega) hkm
   simp only [List.getElem_range] at h5
   unfold pairR at h5
   rw [if_pos rfl] at h5
   exact h5
  ·
   refine (hs.and h3).imp ?_
   rintro a b ⟨hlt,h4⟩ k hk m hm
   have h5:=h4 _ (segK_mem hk) _ (segK_mem hm)
   unfold pairR at h5
   rw [if_neg (show ¬ (segK p a k).arc.id=(segK p b m).arc.id from fun e=>by have e':a.id=b.id:=e;omega)] at h5
   exact h5
 ·
  rintro ⟨h1,h2⟩
  refine ⟨fun s hs'=>?_,fun a ha=>?_,?_⟩
  ·
   obtain ⟨a,ha,hs'⟩:=List.mem_flatMap.1 hs'
   obtain ⟨k,hk,rfl⟩:=segsOf_iff.1 hs'
   exact (h1 a ha).1 k hk
  ·
   unfold segsOf
   rw [List.pairwise_map,List.pairwise_iff_getElem]
   intro k m hk hm hkm
   simp only [List.getElem_range]
   rw [List.length_range] at hm
   unfold pairR
   rw [if_pos rfl]
   exact (h1 a ha).2 k m hkm (by omega)
  ·
   refine (hs.and h2).imp ?_
   rintro a b ⟨hlt,h4⟩ s hs1 t ht
   obtain ⟨k,hk,rfl⟩:=segsOf_iff.1 hs1
   obtain ⟨m,hm,rfl⟩:=segsOf_iff.1 ht
   unfold pairR
   rw [if_neg (show ¬ (segK p a k).arc.id=(segK p b m).arc.id from fun e=>by have e':a.id=b.id:=e;omega)]
   exact h4 k hk m hm
theorem joined_comm (p:Pl) (s t:Sg):joinedS p s t=joinedS p t s:=by
 unfold joinedS
 rw [rmeetS_comm t.a t.b s.a s.b]
 have:meetAt s t=meetAt t s:=by
  funext x
  unfold meetAt
  cases endsS s.arc x.id<;>cases endsS t.arc x.id<;>cases ronS s.a s.b x.pt<;>cases ronS t.a t.b x.pt<;>rfl
 rw [this]
theorem ArcPair.symm {p:Pl} {a b:Ar} (h:ArcPair p a b):ArcPair p b a:=fun k hk m hm=>by rw [joined_comm];exact h m hm k hk

def revA (a:Ar):Ar:=⟨a.id,a.dst,a.fr,a.via.reverse,a.right,a.left⟩
end Go.Proofs.YtnhdmghgjngcaaaGreat
namespace Go.Proofs.YtnhdmghgjngcaaaGreat
open Go.RowKit

theorem dup_iff (l:List Pt):dupS l=false↔l.Pairwise (·≠·):=by
 constructor
 ·
  intro h
  rw [List.pairwise_iff_getElem]
  intro i j hi hj hij e
  have:=dup_yes l j i hij hj e.symm
  rw [h] at this
  cases this
 ·
  intro h
  rw [List.pairwise_iff_getElem] at h
  exact dup_no l fun j k hk hj e=>h k j (by omega) hj hk e.symm
section
variable {p:Pl} (h:Valid p)
include h
theorem Valid.ord_parts:(p.nodes.map (·.id)).Pairwise (· < ·)∧(p.arcs.map (·.id)).Pairwise (· < ·)∧asc p.faces=true:=by
 have ho:=h.ord
 unfold orderedS at ho
 rw [Bool.and_eq_true,Bool.and_eq_true] at ho
 exact ⟨asc_pw _ ho.1.1,asc_pw _ ho.1.2,ho.2⟩
theorem Valid.rng_parts:(p.nodes.map (·.id)).any idBad=false∧(p.arcs.map (·.id)).any idBad=false∧p.faces.any idBad=false∧(pointsS p).all ptOk=true:=by
 have hr:=h.rng
 unfold rangesS at hr
 rw [Bool.and_eq_true,Bool.not_eq_true',List.any_append,List.any_append,Bool.or_eq_false_iff,Bool.or_eq_false_iff] at hr
 exact ⟨hr.1.1.1,hr.1.1.2,hr.1.2,hr.2⟩
theorem Valid.lim_parts:p.arcs.any (fun a=>decide (64<a.via.length))=false∧¬ 256<p.nodes.length∧¬ 256<p.arcs.length∧¬ 64<p.faces.length:=by
 have hl:=h.lim
 unfold limS at hl
 simp only [Bool.or_eq_false_iff,decide_eq_false_iff_not] at hl
 exact ⟨hl.1,hl.2.1.1,hl.2.1.2,hl.2.2⟩

end

end Go.Proofs.YtnhdmghgjngcaaaGreat
