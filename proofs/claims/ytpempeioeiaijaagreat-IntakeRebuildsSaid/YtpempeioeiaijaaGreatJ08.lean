import Derived.Test.YtpempeioeiaijaaGreatJ07
import Derived.Test.YtpempeioeiaijaaGreatJ01
import Derived.Test.YtpempeioeiaijaaGreatJ03
import Derived.Test.YtpempeioeiaijaaGreatJ04
import Derived.Test.YtpempeioeiaijaaGreatJ06
set_option linter.unusedSimpArgs false
set_option linter.unusedVariables false
namespace Go.Proofs.YtpempeioeiaijaaGreat
open Go.RowKit

theorem Valid.short {p:Pl} (h:Valid p):Short p:=fun a ha=>by have:=h.via_len ha;omega
theorem Short.long {p:Pl} (h:Short p):ShortL p:=fun a ha=>by have:=h a ha;omega
theorem Valid.path_of {p:Pl} (h:Valid p) {d:Int} {a:Ar} (e:arcD p d=some a):pathOf p (absI d)=some (pathS p a):=by
 obtain ⟨ha,hi⟩:=arcD_mem e
 rw [hi];exact h.sound.path ha
theorem max_abs (d:Int):max d (-d)=absI d:=by unfold absI;split<;>omega
theorem twiceUp_some {p:Pl} {l:List Int} {k:Nat} (hk:k<l.length) {a:Ar} (e:arcD p l[k]=some a):twiceUp p l (k+1)=twiceUp p l k+(if 0<l[k] then twiceP (pathS p a) else -twiceP (pathS p a)):=by
 have:l.getD k 0=l[k]:=by rw [List.getD_eq_getElem?_getD,List.getElem?_eq_getElem hk];rfl
 rw [twiceUp,this]
 unfold dartT
 rw [e]
theorem twiceD_bad {p:Pl} {l:List Int} {k:Nat} (hk:k<l.length) (e:arcD p l[k]=none):twiceD p l=0:=by
 unfold twiceD
 rw [if_neg]
 rintro ⟨-,h⟩
 have:=h _ (List.getElem_mem hk)
 rw [e] at this;cases this
theorem twiceD_good {p:Pl} {l:List Int} (hl:l.length≤512) (h:∀ j (hj:j<l.length),j<l.length→(arcD p l[j]).isSome=true):twiceD p l=twiceUp p l l.length:=by
 unfold twiceD
 rw [if_pos]
 refine ⟨hl,fun d hd=>?_⟩
 obtain ⟨j,hj,rfl⟩:=List.mem_iff_getElem.1 hd
 exact h j hj hj

set_option maxRecDepth 100000 in
set_option maxHeartbeats 8000000 in
theorem Twice15w_spec (v u:Value) (p:Pl) (l:List Int) (w:World) (h:PlV w v p) (hu:Ints w u l) (hv:Valid p) (hw:∀ d∈l,wfI d) :
  Calls Tryz.prog 123 #[v,u] w fun e w'=>e=.returned (.int .i64 (twiceD p l))∧Below w.heap.size w w':=by
 have HA:=Lib.hid (fun d (hd:wfI d) W (hW:Below w.heap.size w W)=>arcOf_spec v p d W (h.mono hW) hv.short.long hd)
 have HP:=Lib.hid (fun id W (hW:Below w.heap.size w W)=>Path_spec v p id W (h.mono hW) hv.short)
 obtain ⟨_,_,_,al,rfl,hpa,⟨An,cn,rfl,-⟩,⟨⟨Aa,ca,rfl,-⟩,-⟩,⟨Af,cf,rfl,-⟩⟩:=h
 obtain ⟨Al,cl,rfl,hl1,hl2,hR⟩:=hu
 unfold maxLen at hl2
 have HR:=Lib.hid hR
 have HV:=Lib.hid hv
 have HW:=Lib.hid hw
 generalize al.length=na at *
 generalize p.nodes.length=nn at *
 generalize p.faces.length=nf at *
 obtain ⟨q,hq⟩:∃ q,twiceD p l=q:=⟨_,rfl⟩
 rw [hq]
 have Hq:=Lib.hid hq
 clear hpa hR hv hw hq
 go_enter Tryz.func123,Tryz.ntmps123
 by_cases hbig:512<l.length
 case pos =>
  have hbig':512<(l.length:Int):=by omega
  have hf:q=0:=by rw [← Hq.out];unfold twiceD;rw [if_neg (by omega)]
  subst hf
  go_wp2_with fail
  go_ret
  exact ⟨rfl,bA (bR w) _⟩
 have hbig':¬ 512<(l.length:Int):=by omega
 go_wp2_with fail
 obtain ⟨W0,hW⟩:∃ W0:World,W0=w.alloc (.cells #[.slice An nn cn,.slice Aa na ca,.slice Af nf cf] 34):=⟨_,rfl⟩
 have HB0:=Lib.hid (show Below w.heap.size w W0 by rw [hW];exact bA (bR w) _)
 have HX2:=Lib.hid (show Blk W0 w.heap.size 34 #[.slice An nn cn,.slice Aa na ca,.slice Af nf cf] by rw [hW];exact Blk.made rfl _ _)
 rw [← hW]
 clear hW
 go_loopw [4,18] (fun n i wr=>∃ k:Nat,k≤l.length∧i=.int .i64 k∧n=.int .i64 (twiceUp p l k)∧Below W0.heap.size W0 wr∧∀ j (hj:j<l.length),j<k→(arcD p l[j]).isSome=true) (fun _ i _=>l.length-(intOf i).toNat)
 case atStart => exact ⟨0,Nat.zero_le _,rfl,rfl,bR W0,fun _ _ h=>by omega⟩
 case round =>
  obtain ⟨k,hk,rfl,rfl,hb,hno⟩:=hrel
  have Hb:=Lib.hid hb
  have Hno:=Lib.hid hno
  have X2:=HX2.out.keep hb
  clear hb hno
  obtain ⟨X2l,X2a,X2b,X2c,-,-,-⟩:=X2.facts3
  by_cases hlt:k<l.length
  case neg =>
   have hkk:k=l.length:=by omega
   subst hkk
   have hf:=twiceD_good (p:=p) (l:=l) (by omega) Hno.out
   rw [Hq.out] at hf
   have HF:=Lib.hid hf
   clear hf
   go_wp2_with fail
   go_ret
   exact ⟨ret_int HF.out.symm,bT HB0.out Hb.out⟩
  obtain ⟨b,o,rfl,hlb,c0⟩:=(HR.out.mono (bT HB0.out Hb.out)).int hlt
  have hwd:=HW.out _ (List.getElem_mem hlt)
  have HAr:=Lib.hid (HA.out l[k] hwd)
  cases har:arcD p l[k] with
  | none =>
   rw [har] at HAr
   have hf:=twiceD_bad hlt har
   rw [Hq.out] at hf
   subst hf
   clear har hwd
   go_wp2_with fail
   refine (HAr.out _ (bT HB0.out Hb.out)).mono ?_
   rintro e w1 ⟨A1,n1,c1,rfl,hb1⟩
   have B1:=Lib.hid (bT Hb.out hb1)
   clear hb1
   simp only [Option.isSome_none]
   go_wp2_with fail
   go_ret
   exact ⟨rfl,bT HB0.out (bA B1.out _)⟩
  | some a =>
  rw [har] at HAr
  have hst:=twiceUp_some hlt har
  have hpo:=HV.out.path_of har
  have ha:=(arcD_mem har).1
  have hpl:=pathS_length p a
  have hvl:=HV.out.via_len ha
  have HTb:=Lib.hid (fun k hk=>HV.out.twice_bd ha k hk)
  have hub:=HV.out.twiceUp_bd l k
  have hne:l[k]≠-9223372036854775808∧l[k]≠0:=by
   constructor
   · intro e;rw [e] at har;unfold arcD at har;rw [if_pos (.inr rfl)] at har;cases har
   · intro e;rw [e] at har;unfold arcD at har;rw [if_pos (.inl rfl)] at har;cases har
  have hbd:=wfI_bd hwd
  have HPt:=Lib.hid (HP.out (max l[k] (-l[k])))
  have hpm:pathOf p (max l[k] (-l[k]))=some (pathS p a):=by rw [max_abs];exact hpo
  rw [hpm] at HPt
  unfold RetPathE at HPt
  simp only [Option.getD_some,Option.isSome_some,if_true] at HPt
  have HSt:=Lib.hid hst
  have HSo:=Lib.hid (show (arcD p l[k]).isSome=true by rw [har];rfl)
  have HNx:=Lib.hid (all_succ (p:=fun d=>(arcD p d).isSome=true) Hno.out hlt HSo.out)
  have hk1:IntKind.i64.wrap (-l[k])=-l[k]:=IntWalk.i64_in _ (by omega)
  have HBig:=Lib.hid (fun q (hq:q∈pathS p a)=>HV.out.big_path ha hq)
  have HTl:=Lib.hid (HTb.out ((pathS p a).length-1) (by omega))
  have HNe:=Lib.hid hne
  have HSz:=Lib.hid (show k+1≤512 by omega)
  clear hst hpo har hwd hpm hne hbd
  unfold twiceP at HSt
  generalize twiceUp p l k=n at *
  generalize hP:pathS p a=P at *
  generalize l[k]=d at *
  generalize a.via.length=vl at *
  go_wp2_with fail
  refine (HAr.out _ (bT HB0.out Hb.out)).mono ?_
  rintro e w1 ⟨A1,n1,c1,rfl,hb1⟩
  replace X2:=X2.keep hb1
  have B1:=Lib.hid (bT Hb.out hb1)
  clear hb1 X2l X2a X2b X2c HAr c0 hlb
  simp only [Option.isSome_some,Option.getD_some]
  try clear X2l
  try clear X2a
  try clear X2b
  try clear X2c
  obtain ⟨X2l,X2a,X2b,X2c,-,-,-⟩:=X2.facts3
  go_wp2_with fail
  refine (HPt.out _ (bT HB0.out (bA B1.out _))).mono ?_
  rintro e w2 ⟨A2,c2,rfl,hb2,ho2⟩
  have B2:=Lib.hid (bT (bA B1.out _) hb2)
  obtain ⟨Aq,cq,he,hq1,hq2,hRP⟩:=ho2.sl
  injection he with e1 e2 e3
  subst e1 e3
  clear e2
  unfold maxLen at hq2
  have HRP:=Lib.hid hRP
  clear hb2 ho2 hRP HPt X2 X2l X2a X2b X2c
  obtain ⟨N,hN⟩:∃ N,P.length=N+1:=⟨P.length-1,by omega⟩
  have HN:=Lib.hid hN
  have hNs:N≤65:=by omega
  rw [hN] at HTl HSt
  simp only [Nat.add_sub_cancel] at HTl HSt
  have k2:IntKind.i64.wrap (N:Int)=(N:Int):=IntWalk.i64_in _ (by omega)
  rw [hN] at hq1 ⊢
  clear hN hpl hvl
  go_wp2_with fail
  obtain ⟨W2,rfl⟩:∃ W2:World,W2=w2:=⟨_,rfl⟩
  go_loopw [11,44] (fun s i wx=>∃ j:Nat,j≤N∧i=.int .i64 j∧s=.int .i64 (twUp P j)∧Below W2.heap.size W2 wx) (fun _ i _=>N-(intOf i).toNat)
  case atStart => exact ⟨0,Nat.zero_le _,rfl,rfl,bR W2⟩
  case round =>
   obtain ⟨j,hj,rfl,rfl,hbx⟩:=hrel
   have Hbx:=Lib.hid hbx
   clear hbx
   by_cases hjl:j<N
   case pos =>
    have hP1:j<P.length:=by have:=HN.out;omega
    have hP2:j+1<P.length:=by have:=HN.out;omega
    obtain ⟨b1,o1,hA1,hlb1,c0,c1'⟩:=(HRP.out.mono Hbx.out).pt hP1
    subst hA1
    obtain ⟨b2,o2,hA2,-,d0,d1⟩:=(HRP.out.mono Hbx.out).pt hP2
    simp only [Option.some.injEq,Addr.mk.injEq,and_true] at hA2
    obtain ⟨rfl,rfl⟩:=hA2
    have g1:=HBig.out _ (List.getElem_mem hP1)
    have g2:=HBig.out _ (List.getElem_mem hP2)
    have x1:=mul_big g1.1 g2.2
    have x2:=mul_big g2.1 g1.2
    have tb:=HTb.out j (by have:=HN.out;omega)
    have tb2:=HTb.out (j+1) (by have:=HN.out;omega)
    have hstep:twUp P (j+1)=twUp P j+(P[j].x*P[j+1].y-P[j+1].x*P[j].y):=by
     rw [twUp]
     unfold crossG
     simp only [List.getD_eq_getElem?_getD,List.getElem?_eq_getElem hP1,List.getElem?_eq_getElem hP2,Option.getD_some]
    rw [hstep] at tb2
    have HStep:=Lib.hid hstep
    clear hstep g1 g2
    generalize P[j]=p1 at *
    generalize P[j+1]=p2 at *
    generalize hT:twUp P j=T at *
    have q1:0≤(j:Int):=by omega
    have q2:(j:Int)<(N:Int)+1:=by omega
    have q3:0≤(j:Int)+1:=by omega
    have q4:(j:Int)+1<(N:Int)+1:=by omega
    have q5:((j:Int)+1).toNat=j+1:=by omega
    have m0:IntKind.i64.wrap ((j:Int)+1)=(j:Int)+1:=IntWalk.i64_in _ (by omega)
    have m1:IntKind.i64.wrap (p1.x*p2.y)=p1.x*p2.y:=IntWalk.i64_in _ (by omega)
    have m2:IntKind.i64.wrap (p2.x*p1.y)=p2.x*p1.y:=IntWalk.i64_in _ (by omega)
    have m3:IntKind.i64.wrap (p1.x*p2.y-p2.x*p1.y)=p1.x*p2.y-p2.x*p1.y:=IntWalk.i64_in _ (by omega)
    have m4:IntKind.i64.wrap (T+(p1.x*p2.y-p2.x*p1.y))=T+(p1.x*p2.y-p2.x*p1.y):=IntWalk.i64_in _ (by omega)
    clear x1 x2 tb tb2 hT hub
    go_upto_region 16 with fail
    refine rg_start (Since wr) (.run 28 0 0 (.done)) (by kernel_rfl) (bD (bR _)) (by kernel_rfl) (by kernel_rfl) (Nat.le_of_ble_eq_true (by kernel_rfl)) ?_
    intro opsR QR Hops HQrg hS
    iterate 28
     apply rg_p;exact Hops;exact rfl;exact hS;exact rfl
     · intro _ hqc;go_simp;try rfl
     try simp only [pu]
    refine rg_done ?_
    refine HQrg.down _ _ ?_
    have hB:Below wr.heap.size wr wr.drew:=hS
    clear hS HQrg Hops
    have Bx:=Lib.hid (bT Hbx.out hB)
    clear hB m0 m1 m2 m3 m4
    go_wp2_with fail
    go_roundw
    case rel => exact ⟨j+1,by omega,by go_num,by rw [HStep.out],Bx.out⟩
    case measure => simp [intOf];omega
   case neg =>
   have hjj:j=N:=by omega
   subst hjj
   have htl:=HTl.out
   have hsz:=HSz.out
   have Bx:=Lib.hid (bT B2.out Hbx.out)
   generalize hT:twUp P j=T at *
   clear hT
   by_cases hneg:d<0
   ·
    have hst:=HSt.out
    rw [if_neg (by omega)] at hst
    have HSt':=Lib.hid hst
    have m1:IntKind.i64.wrap (-T)=-T:=IntWalk.i64_in _ (by omega)
    have m2:IntKind.i64.wrap (n + -T)=n + -T:=IntWalk.i64_in _ (by omega)
    clear hst htl hub hsz
    go_wp2_with fail
    go_roundw
    case rel => exact ⟨k+1,by omega,by go_num,by rw [HSt'.out],Bx.out,HNx.out⟩
    case measure => simp [intOf];omega
   ·
    have hst:=HSt.out
    rw [if_pos (by have:=HNe.out.2;omega)] at hst
    have HSt':=Lib.hid hst
    have m2:IntKind.i64.wrap (n+T)=n+T:=IntWalk.i64_in _ (by omega)
    clear hst htl hub hsz
    go_wp2_with fail
    go_roundw
    case rel => exact ⟨k+1,by omega,by go_num,by rw [HSt'.out],Bx.out,HNx.out⟩
    case measure => simp [intOf];omega

end Go.Proofs.YtpempeioeiaijaaGreat
namespace Go.Proofs.YtpempeioeiaijaaGreat
open Go.RowKit

def linkF (F:Int→Int) (a b:Int) (i:Int):Int:=if i=a then b else F i
def above0 (l:List Nd) (i:Int):Int:=if i∈l.map (·.id) then i else 0
def eulStep (K:Nat) (s:(Int→Int)×Int) (a:Ar):(Int→Int)×Int :=
 if pw s.1 a.fr K=pw s.1 a.dst K then s else (linkF s.1 (pw s.1 a.fr K) (pw s.1 a.dst K),s.2-1)
def eulSt (p:Pl) (k:Nat):(Int→Int)×Int:=(p.arcs.take k).foldl (eulStep (p.arcs.length+1)) (above0 p.nodes,(p.nodes.length:Int))
end Go.Proofs.YtpempeioeiaijaaGreat
namespace Go.Proofs.YtpempeioeiaijaaGreat
open Go.RowKit

def hY (p:Pt):Int:=8388608*p.y+p.x
instance (ux uy vx vy:Int):Decidable (ltV ux uy vx vy):=by unfold ltV lowV;infer_instance
instance (o a b:Pt):Decidable (dirLt o a b):=by unfold dirLt;infer_instance
def cr1 (a b v:Pt):Int:=if hY a<hY v∧hY v<hY b∧0<tw a b v then 1 else if hY b<hY v∧hY v<hY a∧0<tw b a v then -1 else 0
end Go.Proofs.YtpempeioeiaijaaGreat
namespace Go.Proofs.YtpempeioeiaijaaGreat
open Go.RowKit

section
variable {α β:Type}
end
def stp (f:Pt→Pt→Int) (l:List Pt):Int:=((List.range (l.length-1)).map fun k=>f (l.getD k pt0) (l.getD (k+1) pt0)).sum
def wnS (p:Pl) (z:Int→Int) (f:Pt→Pt→Int):Int:=(p.arcs.map fun a=>z a.id*stp f (pathS p a)).sum
def ClosedC (p:Pl) (z:Int→Int):Prop:=∀ n∈p.nodes,(p.arcs.map fun a=>z a.id*((if a.dst=n.id then 1 else 0)-(if a.fr=n.id then 1 else 0))).sum=0
section
variable {p:Pl} (h:Valid p)
include h
end
end Go.Proofs.YtpempeioeiaijaaGreat
namespace Go.Proofs.YtpempeioeiaijaaGreat
open Go.RowKit

def ArcGood (p:Pl) (a:Ar):Prop:=(∀ k,k+1<(pathS p a).length→aloneS p (segK p a k)=true)∧(∀ k m,k<m→m+1<(pathS p a).length→apartS (segK p a k) (segK p a m)=true)
def ArcPair (p:Pl) (a b:Ar):Prop:=∀ k,k+1<(pathS p a).length→∀ m,m+1<(pathS p b).length→joinedS p (segK p a k) (segK p b m)=true
theorem segsOf_iff {p:Pl} {a:Ar} {s:Sg}:s∈segsOf a (pathS p a)↔∃ k,k+1<(pathS p a).length∧s=segK p a k:=by
 unfold segsOf
 rw [List.mem_map]
 constructor
 · rintro ⟨k,hk,rfl⟩;have:=List.mem_range.1 hk;exact ⟨k,by omega,rfl⟩
 · rintro ⟨k,hk,rfl⟩;exact ⟨k,List.mem_range.2 (by omega),rfl⟩
theorem planar_iff (p:Pl) (hs:(p.arcs.map (·.id)).Pairwise (· < ·)):planarR p=true↔(∀ a∈p.arcs,ArcGood p a)∧p.arcs.Pairwise (ArcPair p):=by
 rw [List.pairwise_map] at hs
 unfold planarR
 rw [triB_iff]
 unfold segsS
 rw [List.pairwise_flatMap]
 constructor
 ·
  rintro ⟨h1,h2,h3⟩
  refine ⟨fun a ha=>⟨fun k hk=>h1 _ (List.mem_flatMap.2 ⟨a,ha,segK_mem hk⟩),fun k m hkm hm=>?_⟩,?_⟩
  ·
   have h4:=h2 a ha
   unfold segsOf at h4
   rw [List.pairwise_map,List.pairwise_iff_getElem] at h4
   have h5:=h4 k m (by rw [List.length_range];omega) (by rw [List.length_range];omega) hkm
   simp only [List.getElem_range] at h5
   unfold pairR at h5
   rw [if_pos rfl] at h5
   exact h5
  ·
   refine (hs.and h3).imp ?_
   rintro a b ⟨hlt,h4⟩ k hk m hm
   have h5:=h4 _ (segK_mem hk) _ (segK_mem hm)
   unfold pairR at h5
   rw [if_neg (show ¬ (segK p a k).arc.id=(segK p b m).arc.id from fun e=>by have e':a.id=b.id:=e;omega)] at h5
   exact h5
 ·
  rintro ⟨h1,h2⟩
  refine ⟨fun s hs'=>?_,fun a ha=>?_,?_⟩
  ·
   obtain ⟨a,ha,hs'⟩:=List.mem_flatMap.1 hs'
   obtain ⟨k,hk,rfl⟩:=segsOf_iff.1 hs'
   exact (h1 a ha).1 k hk
  ·
   unfold segsOf
   rw [List.pairwise_map,List.pairwise_iff_getElem]
   intro k m hk hm hkm
   simp only [List.getElem_range]
   rw [List.length_range] at hm
   unfold pairR
   rw [if_pos rfl]
   exact (h1 a ha).2 k m hkm (by omega)
  ·
   refine (hs.and h2).imp ?_
   rintro a b ⟨hlt,h4⟩ s hs1 t ht
   obtain ⟨k,hk,rfl⟩:=segsOf_iff.1 hs1
   obtain ⟨m,hm,rfl⟩:=segsOf_iff.1 ht
   unfold pairR
   rw [if_neg (show ¬ (segK p a k).arc.id=(segK p b m).arc.id from fun e=>by have e':a.id=b.id:=e;omega)]
   exact h4 k hk m hm
theorem joined_comm (p:Pl) (s t:Sg):joinedS p s t=joinedS p t s:=by
 unfold joinedS
 rw [rmeetS_comm t.a t.b s.a s.b]
 have:meetAt s t=meetAt t s:=by
  funext x
  unfold meetAt
  cases endsS s.arc x.id<;>cases endsS t.arc x.id<;>cases ronS s.a s.b x.pt<;>cases ronS t.a t.b x.pt<;>rfl
 rw [this]
theorem ArcPair.symm {p:Pl} {a b:Ar} (h:ArcPair p a b):ArcPair p b a:=fun k hk m hm=>by rw [joined_comm];exact h m hm k hk

theorem all_map' {α:Type} (l:List α) (f:α→Bool):l.all f=(l.map f).all id:=by rw [List.all_map];rfl
theorem any_map' {α:Type} (l:List α) (f:α→Bool):l.any f=(l.map f).any id:=by rw [List.any_map];rfl
end Go.Proofs.YtpempeioeiaijaaGreat
namespace Go.Proofs.YtpempeioeiaijaaGreat
open Go.RowKit

theorem dup_iff (l:List Pt):dupS l=false↔l.Pairwise (·≠·):=by
 constructor
 ·
  intro h
  rw [List.pairwise_iff_getElem]
  intro i j hi hj hij e
  have:=dup_yes l j i hij hj e.symm
  rw [h] at this
  cases this
 ·
  intro h
  rw [List.pairwise_iff_getElem] at h
  exact dup_no l fun j k hk hj e=>h k j (by omega) hj hk e.symm
section
variable {p:Pl} (h:Valid p)
include h
end

end Go.Proofs.YtpempeioeiaijaaGreat
namespace Go.Proofs.YtpempeioeiaijaaGreat
open Go.RowKit

def ltF (v u a b:Pt):Int:=cr1 a b v-(if a=v∧dirLt v u b then 1 else 0)+(if b=v∧dirLt v u a then 1 else 0)
def ltW (p:Pl) (z:Int→Int) (v u:Pt):Int:=wnS p z (ltF v u)
section
variable {p:Pl} (h:Valid p)
include h
end
end Go.Proofs.YtpempeioeiaijaaGreat
namespace Go.Proofs.YtpempeioeiaijaaGreat
open Go.RowKit

section
variable {p:Pl} (h:Valid p)
include h
end
def Hz (p:Pl) (z:Int→Int) (d:Int):Int:=ltW p z (nodeAt p (startD p d)) (toD p d)
section
variable {p:Pl} (h:Valid p)
include h
end
end Go.Proofs.YtpempeioeiaijaaGreat
namespace Go.Proofs.YtpempeioeiaijaaGreat
open Go.RowKit
set_option linter.unusedSectionVars false

def rtE (p:Pl) (k:Nat) (x:Int):Int:=pw (eulSt p k).1 x (p.arcs.length+1)
def treeA (p:Pl) (k:Nat) (a:Ar):Prop:=rtE p k a.fr≠rtE p k a.dst
instance (p:Pl) (k:Nat) (a:Ar):Decidable (treeA p k a):=by unfold treeA;infer_instance
section
variable {p:Pl} (h:Valid p)
include h
end
section
variable {p:Pl} (h:Valid p)
include h
end
end Go.Proofs.YtpempeioeiaijaaGreat
namespace Go.Proofs.YtpempeioeiaijaaGreat
open Go.RowKit
set_option linter.unusedSectionVars false

section
variable {p:Pl} (h:Valid p)
include h
theorem Valid.cyc_one {c c':List Int} (hc:c∈cyclesD p) (hc':c'∈cyclesD p) {y:Int} (h1:y∈c) (h2:y∈c'):c=c':=by
 have hnd:=h.cyc.nodup
 rw [List.nodup_iff_pairwise_ne,List.pairwise_flatten] at hnd
 have hpw:=hnd.2
 rw [List.pairwise_iff_getElem] at hpw
 obtain ⟨i,hi,rfl⟩:=List.mem_iff_getElem.1 hc
 obtain ⟨j,hj,rfl⟩:=List.mem_iff_getElem.1 hc'
 rcases Nat.lt_trichotomy i j with h3 | h3 | h3
 · exact absurd rfl (hpw i j hi hj h3 _ h1 _ h2)
 · subst h3;rfl
 · exact absurd rfl (hpw j i hj hi h3 _ h2 _ h1)
theorem Valid.cyc_form {c:List Int} (hc:c∈cyclesD p):∃ x∈dartsD p,c=orb (nextD p) (dartsD p) x∧c.headD 0=x∧x∈c:=by
 obtain ⟨x,hx,e,-⟩:=h.cyc.orbs c hc
 have hf:=orb_facts (fun x hx=>(h.next_mem hx).1) (fun x hx y hy=>h.next_inj hx hy) hx
 refine ⟨x,hx,e,?_,by rw [e];exact head_orb hf.1⟩
 rw [e]
 unfold orb
 obtain ⟨m,hm⟩:∃ m,orbN (nextD p) (dartsD p) x=m+1:=⟨orbN (nextD p) (dartsD p) x-1,by have:=hf.1;omega⟩
 rw [hm]
 rfl
end
end Go.Proofs.YtpempeioeiaijaaGreat
