import Derived.Test.YtialfdomhoojiaaGreatJ08
import Derived.Test.YtialfdomhoojiaaGreatJ01
import Derived.Test.YtialfdomhoojiaaGreatJ04
import Derived.Test.YtialfdomhoojiaaGreatJ07
set_option linter.unusedSimpArgs false
set_option linter.unusedVariables false
namespace Go.Proofs.YtialfdomhoojiaaGreat
open Go.RowKit
theorem Valid.short {p:Pl} (h:Valid p):Short p:=fun a ha=>by have:=h.Bh ha;omega
theorem Short.long {p:Pl} (h:Short p):GI p:=fun a ha=>by have:=h a ha;omega
theorem Valid.adM {p:Pl} (h:Valid p) {d:Int} {a:Ar} (e:iC p d=some a):pathOf p (gV d)=some (au p a):=by
 obtain ⟨ha,hi⟩:=Xw e;rw [hi];exact h.sound.path ha
theorem ale (d:Int):max d (-d)=gV d:=by unfold gV;split<;>omega
theorem alf {p:Pl} {l:List Int} {k:Nat} (hk:k<l.length) {a:Ar} (e:iC p l[k]=some a):uj p l (k+1)=uj p l k+(if 0<l[k] then Bg (au p a) else -Bg (au p a)):=by
 have:l.getD k 0=l[k]:=by rw [List.getD_eq_getElem?_getD,List.getElem?_eq_getElem hk];rfl
 rw [uj,this];unfold uh;rw [e]
theorem alg {p:Pl} {l:List Int} {k:Nat} (hk:k<l.length) (e:iC p l[k]=none):CW p l=0:=by
 unfold CW;rw [if_neg];rintro ⟨-,h⟩;have:=h _ (List.getElem_mem hk)
 rw [e] at this;cases this
theorem alh {p:Pl} {l:List Int} (hl:l.length<=512) (h:∀ j (hj:j<l.length),j<l.length->(iC p l[j]).isSome=true):CW p l=uj p l l.length:=by
 unfold CW;rw [if_pos];refine ⟨hl,fun d hd=>?_⟩;obtain ⟨j,hj,rfl⟩:=List.mem_iff_getElem.1 hd;exact h j hj hj
set_option maxRecDepth 100000 in
set_option maxHeartbeats 8000000 in
theorem ali (v u:Value) (p:Pl) (l:List Int) (w:World) (h:dS w v p) (hu:Ints w u l) (hv:Valid p) (hw:∀ d∈l,dP d) :
  Calls Tryz.prog 120 #[v,u] w fun e w'=>e=.returned (.int .i64 (CW p l))/\Below w.heap.size w w':=by
 have HA:=Lib.hid (fun d (hd:dP d) W (hW:Below w.heap.size w W)=>adI v p d W (h.mono hW) hv.short.long hd);have HP:=Lib.hid (fun id W (hW:Below w.heap.size w W)=>QZ v p id W (h.mono hW) hv.short);obtain ⟨_,_,_,al,rfl,hpa,⟨An,cn,rfl,-⟩,⟨⟨Aa,ca,rfl,-⟩,-⟩,⟨Af,cf,rfl,-⟩⟩:=h;obtain ⟨Al,cl,rfl,hl1,hl2,hR⟩:=hu;unfold maxLen at hl2;have HR:=Lib.hid hR;have HV:=Lib.hid hv;have HW:=Lib.hid hw;generalize al.length=na at *;generalize p.nodes.length=nn at *;generalize p.faces.length=nf at *;obtain ⟨q,hq⟩:∃ q,CW p l=q:=⟨_,rfl⟩;rw [hq];have Hq:=Lib.hid hq;clear hpa hR hv hw hq;go_enter Tryz.func120,Tryz.ntmps120;by_cases hbig:512<l.length
 case pos =>
  have hbig':512<(l.length:Int):=by omega
  have hf:q=0:=by rw [<- Hq.out];unfold CW;rw [if_neg (by omega)]
  subst hf;go_wp2_with fail;go_ret;exact ⟨rfl,bA (bR w) _⟩
 have hbig':¬ 512<(l.length:Int):=by omega
 go_wp2_with fail;obtain ⟨W0,hW⟩:∃ W0:World,W0=w.alloc (.cells #[.slice An nn cn,.slice Aa na ca,.slice Af nf cf] 26):=⟨_,rfl⟩;have HB0:=Lib.hid (show Below w.heap.size w W0 by rw [hW];exact bA (bR w) _);have bY:=Lib.hid (show aj W0 w.heap.size 26 #[.slice An nn cn,.slice Aa na ca,.slice Af nf cf] by rw [hW];exact aj.made rfl _ _);rw [<- hW];clear hW;go_loopw [4,18] (fun n i wr=>∃ k:Nat,k<=l.length/\i=.int .i64 k/\n=.int .i64 (uj p l k)/\Below W0.heap.size W0 wr/\∀ j (hj:j<l.length),j<k->(iC p l[j]).isSome=true) (fun _ i _=>l.length-(intOf i).toNat)
 case atStart => exact ⟨0,Nat.zero_le _,rfl,rfl,bR W0,fun _ _ h=>by omega⟩
 case round =>
  obtain ⟨k,hk,rfl,rfl,hb,hno⟩:=hrel;have Hb:=Lib.hid hb;have Hno:=Lib.hid hno;have X2:=bY.out.keep hb;clear hb hno;obtain ⟨gI,gJ,iq,iZ,-,-,-⟩:=X2.bC;by_cases hlt:k<l.length
  case neg =>
   have hkk:k=l.length:=by omega
   subst hkk;have hf:=alh (p:=p) (l:=l) (by omega) Hno.out;rw [Hq.out] at hf;have HF:=Lib.hid hf;clear hf;go_wp2_with fail;go_ret;exact ⟨fA HF.out.symm,bT HB0.out Hb.out⟩
  obtain ⟨b,o,rfl,hlb,c0⟩:=(HR.out.mono (bT HB0.out Hb.out)).int hlt;have hwd:=HW.out _ (List.getElem_mem hlt);have rF:=Lib.hid (HA.out l[k] hwd)
  cases har:iC p l[k] with
  | none =>
   rw [har] at rF;have hf:=alg hlt har;rw [Hq.out] at hf;subst hf;clear har hwd;go_wp2_with fail;refine (rF.out _ (bT HB0.out Hb.out)).mono ?_;rintro e w1 ⟨A1,n1,c1,rfl,hb1⟩;have B1:=Lib.hid (bT Hb.out hb1);clear hb1;simp only [Option.isSome_none];go_wp2_with fail;go_ret;exact ⟨rfl,bT HB0.out (bA B1.out _)⟩
  | some a =>
  rw [har] at rF;have hst:=alf hlt har;have hpo:=HV.out.adM har;have ha:=(Xw har).1;have hpl:=fJ p a;have hvl:=HV.out.Bh ha;have J7:=Lib.hid (fun k hk=>HV.out.adL ha k hk);have hub:=HV.out.ald l k;have hne:l[k]≠-9223372036854775808/\l[k]≠0:=by
   constructor
   · intro e;rw [e] at har;unfold iC at har;rw [if_pos (.inr rfl)] at har;cases har
   · intro e;rw [e] at har;unfold iC at har;rw [if_pos (.inl rfl)] at har;cases har
  have hbd:=adH hwd;have um:=Lib.hid (HP.out (max l[k] (-l[k])));have hpm:pathOf p (max l[k] (-l[k]))=some (au p a):=by rw [ale];exact hpo
  rw [hpm] at um;unfold WC at um;simp only [Option.getD_some,Option.isSome_some,if_true] at um;have dQ:=Lib.hid hst;have uo:=Lib.hid (show (iC p l[k]).isSome=true by rw [har];rfl);have Bj:=Lib.hid (all_succ (p:=fun d=>(iC p d).isSome=true) Hno.out hlt uo.out);have hk1:IntKind.i64.wrap (-l[k])=-l[k]:=IntWalk.i64_in _ (by omega);have G8:=Lib.hid (fun q (hq:q∈au p a)=>HV.out.Xx ha hq);have lU:=Lib.hid (J7.out ((au p a).length-1) (by omega));have Xy:=Lib.hid hne;have J8:=Lib.hid (show k+1<=512 by omega);clear hst hpo har hwd hpm hne hbd;unfold Bg at dQ;generalize uj p l k=n at *;generalize hP:au p a=P at *;generalize l[k]=d at *;generalize a.via.length=vl at *;go_wp2_with fail;refine (rF.out _ (bT HB0.out Hb.out)).mono ?_;rintro e w1 ⟨A1,n1,c1,rfl,hb1⟩;replace X2:=X2.keep hb1;have B1:=Lib.hid (bT Hb.out hb1);clear hb1 gI gJ iq iZ rF c0 hlb;simp only [Option.isSome_some,Option.getD_some]
  try clear gI
  try clear gJ
  try clear iq
  try clear iZ
  obtain ⟨gI,gJ,iq,iZ,-,-,-⟩:=X2.bC;go_wp2_with fail;refine (um.out _ (bT HB0.out (bA B1.out _))).mono ?_;rintro e w2 ⟨A2,c2,rfl,hb2,ho2⟩;have B2:=Lib.hid (bT (bA B1.out _) hb2);obtain ⟨Aq,cq,he,hq1,hq2,H6⟩:=ho2.sl;injection he with e1 e2 e3;subst e1 e3;clear e2;unfold maxLen at hq2;have HRP:=Lib.hid H6;clear hb2 ho2 H6 um X2 gI gJ iq iZ;obtain ⟨N,hN⟩:∃ N,P.length=N+1:=⟨P.length-1,by omega⟩;have HN:=Lib.hid hN;have hNs:N<=65:=by omega
  rw [hN] at lU dQ;simp only [Nat.add_sub_cancel] at lU dQ;have k2:IntKind.i64.wrap (N:Int)=(N:Int):=IntWalk.i64_in _ (by omega);rw [hN] at hq1 ⊢;clear hN hpl hvl;go_wp2_with fail;obtain ⟨W2,rfl⟩:∃ W2:World,W2=w2:=⟨_,rfl⟩;go_loopw [11,44] (fun s i wx=>∃ j:Nat,j<=N/\i=.int .i64 j/\s=.int .i64 (ug P j)/\Below W2.heap.size W2 wx) (fun _ i _=>N-(intOf i).toNat)
  case atStart => exact ⟨0,Nat.zero_le _,rfl,rfl,bR W2⟩
  case round =>
   obtain ⟨j,hj,rfl,rfl,hbx⟩:=hrel;have iO:=Lib.hid hbx;clear hbx;by_cases hjl:j<N
   case pos =>
    have hP1:j<P.length:=by have:=HN.out;omega
    have hP2:j+1<P.length:=by have:=HN.out;omega
    obtain ⟨b1,o1,hA1,adN,c0,c1'⟩:=(HRP.out.mono iO.out).pt hP1;subst hA1;obtain ⟨b2,o2,hA2,-,d0,d1⟩:=(HRP.out.mono iO.out).pt hP2;simp only [Option.some.injEq,Addr.mk.injEq,and_true] at hA2;obtain ⟨rfl,rfl⟩:=hA2;have g1:=G8.out _ (List.getElem_mem hP1);have g2:=G8.out _ (List.getElem_mem hP2);have x1:=RS g1.1 g2.2;have x2:=RS g2.1 g1.2;have tb:=J7.out j (by have:=HN.out;omega);have tb2:=J7.out (j+1) (by have:=HN.out;omega);have hstep:ug P (j+1)=ug P j+(P[j].x*P[j+1].y-P[j+1].x*P[j].y):=by
     rw [ug];unfold sV;simp only [List.getD_eq_getElem?_getD,List.getElem?_eq_getElem hP1,List.getElem?_eq_getElem hP2,Option.getD_some]
    rw [hstep] at tb2;have alj:=Lib.hid hstep;clear hstep g1 g2;generalize P[j]=p1 at *;generalize P[j+1]=p2 at *;generalize hT:ug P j=T at *;have q1:0<=(j:Int):=by omega
    have q2:(j:Int)<(N:Int)+1:=by omega
    have q3:0<=(j:Int)+1:=by omega
    have q4:(j:Int)+1<(N:Int)+1:=by omega
    have q5:((j:Int)+1).toNat=j+1:=by omega
    have m0:IntKind.i64.wrap ((j:Int)+1)=(j:Int)+1:=IntWalk.i64_in _ (by omega);have m1:IntKind.i64.wrap (p1.x*p2.y)=p1.x*p2.y:=IntWalk.i64_in _ (by omega);have m2:IntKind.i64.wrap (p2.x*p1.y)=p2.x*p1.y:=IntWalk.i64_in _ (by omega);have m3:IntKind.i64.wrap (p1.x*p2.y-p2.x*p1.y)=p1.x*p2.y-p2.x*p1.y:=IntWalk.i64_in _ (by omega);have m4:IntKind.i64.wrap (T+(p1.x*p2.y-p2.x*p1.y))=T+(p1.x*p2.y-p2.x*p1.y):=IntWalk.i64_in _ (by omega);clear x1 x2 tb tb2 hT hub;go_upto_region 16 with fail;refine bZ (Since wr) (.run 28 0 0 (.done)) (by kernel_rfl) (bD (bR _)) (by kernel_rfl) (by kernel_rfl) (Nat.le_of_ble_eq_true (by kernel_rfl)) ?_;intro cO QR ak aC hS
    iterate 28
     apply bg;exact ak;exact rfl;exact hS;exact rfl
     · intro _ hqc;go_simp;try rfl
     try simp only [pu]
    refine bM ?_;refine aC.down _ _ ?_;have hB:Below wr.heap.size wr wr.drew:=hS;clear hS aC ak;have Bx:=Lib.hid (bT iO.out hB);clear hB m0 m1 m2 m3 m4;go_wp2_with fail;go_roundw
    case rel => exact ⟨j+1,by omega,by go_num,by rw [alj.out],Bx.out⟩
    case measure => simp [intOf];omega
   case neg =>
   have hjj:j=N:=by omega
   subst hjj;have htl:=lU.out;have hsz:=J8.out;have Bx:=Lib.hid (bT B2.out iO.out);generalize hT:ug P j=T at *;clear hT;by_cases hneg:d<0
   ·have hst:=dQ.out;rw [if_neg (by omega)] at hst;have Xz:=Lib.hid hst;have m1:IntKind.i64.wrap (-T)=-T:=IntWalk.i64_in _ (by omega);have m2:IntKind.i64.wrap (n + -T)=n + -T:=IntWalk.i64_in _ (by omega);clear hst htl hub hsz;go_wp2_with fail;go_roundw
    case rel => exact ⟨k+1,by omega,by go_num,by rw [Xz.out],Bx.out,Bj.out⟩
    case measure => simp [intOf];omega
   ·have hst:=dQ.out;rw [if_pos (by have:=Xy.out.2;omega)] at hst;have Xz:=Lib.hid hst;have m2:IntKind.i64.wrap (n+T)=n+T:=IntWalk.i64_in _ (by omega);clear hst htl hub hsz;go_wp2_with fail;go_roundw
    case rel => exact ⟨k+1,by omega,by go_num,by rw [Xz.out],Bx.out,Bj.out⟩
    case measure => simp [intOf];omega
def Bl (F:Int->Int) (K:Nat):Prop:=∀ x,F (pw F x K)=pw F x K
theorem NS {F:Int->Int} {x:Int} {K:Nat} (h:F (pw F x K)=pw F x K) (n:Nat):pw F x (K+n)=pw F x K:=by
 induction n with
 | zero=>rfl
 | succ n ih=>show F (pw F x (K+n))=_;rw [ih,h]
theorem XB {F:Int->Int} {x:Int} {i j:Nat} (hi:F (pw F x i)=pw F x i) (hj:F (pw F x j)=pw F x j):pw F x i=pw F x j:=by
 rcases Nat.le_total i j with h | h
 ·have:=NS hi (j-i)
  rw [show i+(j-i)=j by omega] at this;exact this.symm
 ·have:=NS hj (i-j)
  rw [show j+(i-j)=i by omega] at this;exact this
theorem Bl.more {F:Int->Int} {K M:Nat} (h:Bl F K) (hm:K<=M):Bl F M:=by
 intro x;have:=NS (h x) (M-K)
 rw [show K+(M-K)=M by omega] at this;rw [this];exact h x
theorem Bl.eq {F:Int->Int} {K M:Nat} (h:Bl F K) (hm:K<=M) (x:Int):pw F x M=pw F x K:=XB (h.more hm x) (h x)
def lF (F:Int->Int) (a b:Int) (i:Int):Int:=if i=a then b else F i
theorem adO {F:Int->Int} {a b x:Int} (n:Nat) (h:∀ j,j<n->pw F x j≠a):pw (lF F a b) x n=pw F x n:=by
 induction n with
 | zero=>rfl
 | succ n ih =>
  show lF F a b (pw (lF F a b) x n)=F (pw F x n)
  rw [ih (fun j hj=>h j (by omega))];unfold lF;rw [if_neg (h n (by omega))]
theorem adP {P:Nat->Prop} [DecidablePred P] : ∀ n,P n->∃ j,j<=n/\P j/\∀ i,i<j->¬ P i
 | 0,h=>⟨0,Nat.le_refl _,h,fun i hi=>by omega⟩
 | n+1,h=>by
  by_cases h2:∃ m,m<=n/\P m
  ·obtain ⟨m,hm,hp⟩:=h2;obtain ⟨j,h1,h3,h4⟩:=adP m hp;exact ⟨j,by omega,h3,h4⟩
  · exact ⟨n+1,Nat.le_refl _,h,fun i hi hp=>h2 ⟨i,by omega,hp⟩⟩
termination_by n=>n
decreasing_by omega
theorem adQ {F:Int->Int} {K:Nat} (h:Bl F K) {a b:Int} (ha:F a=a) (hb:F b=b) (hne:a≠b) :
  Bl (lF F a b) (K+1)/\∀ x,pw (lF F a b) x (K+1)=if pw F x K=a then b else pw F x K:=by
 have hfb:lF F a b b=b:=by unfold lF;rw [if_neg (fun e=>hne e.symm),hb]
 have key:∀ x,pw (lF F a b) x (K+1)=if pw F x K=a then b else pw F x K:=by
  intro x;by_cases hx:pw F x K=a
  ·rw [if_pos hx];obtain ⟨j,h1,h2,h3⟩:=adP (P:=fun j=>pw F x j=a) K hx;have e1:pw (lF F a b) x j=a:=by rw [adO j h3];exact h2
   have e2:pw (lF F a b) x (j+1)=b:=by
    show lF F a b (pw (lF F a b) x j)=b
    rw [e1];unfold lF;rw [if_pos rfl]
   have e3:lF F a b (pw (lF F a b) x (j+1))=pw (lF F a b) x (j+1):=by rw [e2];exact hfb
   have:=NS e3 (K-j)
   rw [show j+1+(K-j)=K+1 by omega] at this;rw [this,e2]
  ·rw [if_neg hx];have hn:∀ j,j<K+1->pw F x j≠a:=by
    intro j hj e;have e2:F (pw F x j)=pw F x j:=by rw [e];exact ha
    exact hx ((XB (h x) e2).trans e)
   rw [adO (K+1) hn];exact NS (h x) 1
 refine ⟨fun x=>?_,key⟩;rw [key x];split
 · exact hfb
 ·rename_i hx;unfold lF;rw [if_neg hx];exact h x
def xg (F:Int->Int):Nat->Int->Nat
 | 0,_=>0
 | n+1,y=>if F y=y then 0 else xg F n (F y)+1
theorem adR {F:Int->Int}:∀ (n:Nat) (y:Int),F (pw F y n)=pw F y n->∀ k,xg F (n+k) y=xg F n y
 | 0,y,h,k=>by
  have h':F y=y:=h
  cases k with
  | zero=>rfl
  | succ k=>show xg F (0+k+1) y=_;unfold xg;rw [if_pos h']
 | n+1,y,h,k=>by
  rw [show n+1+k=(n+k)+1 by omega];unfold xg;split
  · rfl
  · rw [adR n (F y) (by rw [RF];exact h) k]
theorem alk {F:Int->Int} {K:Nat} {y:Int} (h:F (pw F y K)=pw F y K) (hne:F y≠y):xg F K (F y)<xg F K y:=by
 cases K with
 | zero=>exact absurd h hne
 | succ n =>
  have h2:F (pw F (F y) n)=pw F (F y) n:=by rw [RF];exact h
  rw [adR n (F y) h2 1];rw [show xg F (n+1) y=xg F n (F y)+1 by show (if F y=y then 0 else _)=_;rw [if_neg hne]];omega
def oZ (l:List Nd) (i:Int):Int:=if i∈l.map (·.id) then i else 0
theorem alm (l:List Nd) (n:Nd):(fun i=>if i=n.id then n.id else oZ l i)=oZ (l++[n]):=by
 funext i
 unfold oZ;by_cases e:i=n.id
 · subst e;simp
 · simp only [e,if_false,List.map_append,List.mem_append,List.map_cons,List.map_nil,List.mem_singleton,or_false]
theorem aln:oZ []=fun _=>0:=by funext i;simp [oZ]
theorem alp (l:List Nd):Bl (oZ l) 1:=by
 intro x
 show oZ l (oZ l x)=oZ l x
 unfold oZ;by_cases h:x∈l.map (·.id)
 · rw [if_pos h,if_pos h]
 · rw [if_neg h];split<;>rfl
def J9 (K:Nat) (s:(Int->Int)×Int) (a:Ar):(Int->Int)×Int :=
 if pw s.1 a.fr K=pw s.1 a.dst K then s else (lF s.1 (pw s.1 a.fr K) (pw s.1 a.dst K),s.2-1)
def mQ (p:Pl) (k:Nat):(Int->Int)×Int:=(p.ah.take k).foldl (J9 (p.ah.length+1)) (oZ p.nodes,(p.nodes.length:Int))
def EN (p:Pl):Int:=(mQ p p.ah.length).2
theorem RU (p:Pl) (k:Nat) (hk:k<p.ah.length):mQ p (k+1)=J9 (p.ah.length+1) (mQ p k) p.ah[k]:=by
 unfold mQ;rw [List.take_succ_eq_append_getElem hk,List.foldl_append];rfl
structure alq (p:Pl) (k:Nat) (s:(Int->Int)×Int):Prop where
 flat:Bl s.1 (k+1)
 bd:∀ x,-1073741824<=s.1 x/\s.1 x<=1073741824
 lo:(p.nodes.length:Int)-k<=s.2
 hi:s.2<=p.nodes.length
theorem adS {p:Pl} (h:Valid p) (k:Nat) (hk:k<=p.ah.length):alq p k (mQ p k):=by
 induction k with
 | zero =>
  refine ⟨alp _,fun x=>?_,by simp [mQ],by simp [mQ]⟩
  show -1073741824<=oZ p.nodes x/\oZ p.nodes x<=1073741824
  unfold oZ;split
  ·rename_i hm;obtain ⟨n,hn,rfl⟩:=List.mem_map.1 hm;have:=h.RH hn
   omega
  · omega
 | succ k ih =>
  obtain ⟨h1,h2,h3,h4⟩:=ih (by omega);rw [RU p k (by omega)];generalize mQ p k=s at *;unfold J9;split
  · exact ⟨h1.more (by omega),h2,by omega,h4⟩
  ·rename_i hne;have e1:∀ x,s.1 (pw s.1 x (p.ah.length+1))=pw s.1 x (p.ah.length+1):=h1.more (by omega);refine ⟨(adQ h1 (e1 _) (e1 _) hne).1,fun x=>?_,by show _<=s.2-1;omega,by show s.2-1<=_;omega⟩
   show -1073741824<=lF _ _ _ x/\lF _ _ _ x<=1073741824
   unfold lF;split
   · rw [<- e1];exact h2 _
   · exact h2 _
def hY (p:Pt):Int:=8388608*p.y+p.x
theorem nT {a b:Pt} (ha:aW a=true) (hb:aW b=true) (h:hY a=hY b):a=b:=by
 rw [wL] at ha hb;unfold hY at h;rw [Pt.ext_iff'];omega
instance (ux uy vx vy:Int):Decidable (rC ux uy vx vy):=by unfold rC jW;infer_instance
instance (o a b:Pt):Decidable (dV o a b):=by unfold dV;infer_instance
def oK (a b v:Pt):Int:=if hY a<hY v/\hY v<hY b/\0<tw a b v then 1 else if hY b<hY v/\hY v<hY a/\0<tw b a v then -1 else 0
theorem XD (a b v:Pt):oK b a v=-oK a b v:=by
 unfold oK;by_cases h1:hY a<hY v/\hY v<hY b/\0<tw a b v
 · rw [if_pos h1,if_neg (by omega),if_pos h1]
 ·rw [if_neg h1];by_cases h2:hY b<hY v/\hY v<hY a/\0<tw b a v
  · rw [if_pos h2,if_neg h1,if_pos h2];rfl
  · rw [if_neg h2,if_neg h1,if_neg h2];rfl
def NT (s t v:Pt):Int:=if hY s<hY v/\hY v<hY t/\tw s t v<0 then 1 else 0
theorem adT (a b s t:Pt):tw a b s*(hY t-hY b)+tw a b t*(hY b-hY s)=-((hY b-hY a)*tw s t b):=by unfold tw hY;grind
theorem adU (a b s t:Pt):tw a b s*(hY t-hY a)+tw a b t*(hY a-hY s)=-((hY b-hY a)*tw s t a):=by unfold tw hY;grind
theorem NU (a b s t:Pt):tw a b t-tw a b s=tw s t a-tw s t b:=by unfold tw;grind
theorem XE (a b s t:Pt):aF a b s t=tw a b t-tw a b s:=by unfold tw aF;grind
theorem alr (a s t:Pt):aF a s s t=tw s t a:=by unfold tw aF;grind
theorem als (a b s:Pt):aF a s a b=-tw a b s:=by unfold tw aF;grind
theorem adV (a b c:Pt):tw a c b=-tw a b c:=by unfold tw;grind
theorem CX (a b:Pt):tw a b a=0:=by unfold tw;grind
theorem CZ (a b:Pt):tw a b b=0:=by unfold tw;grind
theorem adW {a b s t:Pt} (hab:a≠b) (h:qg a b s t=0) (hd:tw a b t-tw a b s≠0) :
  ¬ (tw a b s<=0/\0<=tw a b t/\tw s t b<=0/\0<=tw s t a)/\¬ (0<=tw a b s/\tw a b t<=0/\0<=tw s t b/\tw s t a<=0):=by
 have e:=NU a b s t;unfold qg at h;rw [if_neg (fun h=>hab h.1),alr a s t,als a b s,XE a b s t,if_neg hd] at h;split at h
 ·split at h
  · cases h
  · omega
 ·split at h
  · cases h
  · omega
def nU (a b s t:Pt):Prop:=tw a b t-tw a b s≠0->¬ (tw a b s<=0/\0<=tw a b t/\tw s t b<=0/\0<=tw s t a)/\¬ (0<=tw a b s/\tw a b t<=0/\0<=tw s t b/\tw s t a<=0)
theorem nU.of {a b s t:Pt} (hab:a≠b) (h:qg a b s t=0):nU a b s t:=adW hab h
theorem nU.comm {a b s t:Pt} (h:nU a b s t):nU s t a b:=by
 intro hd;have e:=NU a b s t;have:=h (by omega)
 omega
theorem nU.flip {a b s t:Pt} (h:nU a b s t):nU b a s t:=by
 intro hd;have e1:tw b a s=-tw a b s:=by unfold tw;grind
 have e2:tw b a t=-tw a b t:=by unfold tw;grind
 have:=h (by omega)
 omega
theorem oL (x:Int) {y z:Int} (h:y<z):(0<x*z-x*y↔0<x)/\(x*z-x*y<0↔x<0):=by
 rw [<- Int.mul_sub];have hp:0<z-y:=by omega
 rcases Int.lt_trichotomy x 0 with h1 | h1 | h1
 · have:=Int.mul_neg_of_neg_of_pos h1 hp;omega
 · subst h1;simp
 · have:=Int.mul_pos h1 hp;omega
theorem adX {a b s t:Pt} (hab:hY a<hY b) (hst:hY s<hY t) (h:nU a b s t) :
  (hY a<hY s->hY s<hY b->hY b<hY t->(0<tw a b s↔tw s t b<0)) /\
  (hY a<hY s->hY t<hY b->(0<tw a b s↔0<tw a b t)) /\
  (hY s<hY a->hY b<hY t->(tw s t a<0↔tw s t b<0)) /\
  (hY s<hY a->hY a<hY t->hY t<hY b->(0<tw a b t↔tw s t a<0)):=by
 have e:=NU a b s t;have i1:=adT a b s t;have i2:=adU a b s t;have j1:=adT s t a b;have j2:=adU s t a b;have nm:=h;unfold nU at nm;clear h;generalize tw a b s=u1 at *;generalize tw a b t=u2 at *;generalize tw s t a=u3 at *;generalize tw s t b=u4 at *;generalize hY a=A at *;generalize hY b=B at *;generalize hY s=S at *;generalize hY t=T at *;rw [Int.mul_sub,Int.mul_sub,Int.mul_comm (B-A),Int.mul_sub] at i1 i2;rw [Int.mul_sub,Int.mul_sub,Int.mul_comm (T-S),Int.mul_sub] at j1 j2;have g1:=oL u1 hst;have g2:=oL u2 hst;have g3:=oL u3 hab;have g4:=oL u4 hab;refine ⟨fun h1 h2 h3=>?_,fun h1 h2=>?_,fun h1 h2=>?_,fun h1 h2 h3=>?_⟩
 ·have f1:=oL u1 h3;have f2:=oL u2 h2;have f3:=oL u1 (show A<T by omega);have f4:=oL u2 h1;by_cases hd:u2-u1=0
  ·have:u1=u2:=by omega
   subst this;omega
  ·have:=nm hd
   omega
 ·have f1:=oL u1 h2;have f2:=oL u2 (show S<B by omega);have f3:=oL u1 (show A<T by omega);have f4:=oL u2 h1;by_cases hd:u2-u1=0
  · omega
  ·have:=nm hd
   omega
 ·have f1:=oL u3 h2;have f2:=oL u4 (show A<T by omega);have f3:=oL u3 (show S<B by omega);have f4:=oL u4 h1;by_cases hd:u2-u1=0
  · omega
  ·have:=nm hd
   omega
 ·have f1:=oL u1 h3;have f2:=oL u2 (show S<B by omega);have f3:=oL u1 h2;have f4:=oL u2 h1;by_cases hd:u2-u1=0
  ·have:u1=u2:=by omega
   subst this;have f5:=oL u1 (show S<T by omega);omega
  ·have:=nm hd
   omega
theorem adY {o p:Pt} (ho:aW o=true) (hp:aW p=true):jW (p.x-o.x) (p.y-o.y)↔hY p<hY o:=by
 rw [wL] at ho hp;unfold jW hY;omega
theorem Ko {o a b:Pt} (ho:aW o=true) (ha:aW a=true) (hb:aW b=true):dV o a b↔(¬ hY a<hY o/\hY b<hY o)\/((hY a<hY o↔hY b<hY o)/\0<tw o a b):=by
 unfold dV rC;rw [adY ho ha,adY ho hb];rfl
theorem adZ {a b s t:Pt} (na:aW a=true) (nb:aW b=true) (ns:aW s=true) (nt:aW t=true) (hab:hY a<hY b) (hst:hY s<hY t)
  (hno:a≠s->a≠t->b≠s->b≠t->nU a b s t) :
  oK a b s+(if a=s/\dV s b t then 1 else 0)-(if b=s/\dV s a t then 1 else 0)-(oK a b t-(if a=t/\dV t s b then 1 else 0)+(if b=t/\dV t s a then 1 else 0))=NT s t b-NT s t a:=by
 have hne:a≠b:=fun e=>by rw [e] at hab;omega
 have d1:=Ko ns nb nt;have d2:=Ko ns na nt;have d3:=Ko nt ns nb;have d4:=Ko nt ns na;have q:∀ {u v:Pt},aW u=true->aW v=true->(u=v↔hY u=hY v):=fun hu hv=>⟨fun e=>by rw [e],nT hu hv⟩;have e1:tw s b t=-tw s t b:=adV s t b;have e2:tw t s a=-tw s t a:=by unfold tw;grind
 have f1:hY a=hY s->tw a b s=0/\tw s t a=0/\tw a b t=-tw s t b:=fun h=>by
  have:=nT na ns h
  subst this;exact ⟨CX a b,CX a t,e1⟩
 have f2:hY b=hY t->tw a b t=0/\tw s t b=0/\tw a b s=-tw s t a:=fun h=>by
  have:=nT nb nt h
  subst this;exact ⟨CZ a b,CZ s b,by unfold tw;grind⟩
 have f3:hY a≠hY s->hY a≠hY t->hY b≠hY s->hY b≠hY t->_:=fun h1 h2 h3 h4=>adX (s:=s) (t:=t) hab hst (hno (fun e=>h1 (by rw [e])) (fun e=>h2 (by rw [e])) (fun e=>h3 (by rw [e])) (fun e=>h4 (by rw [e])));have k1:(a=s/\dV s b t)↔(hY a=hY s/\tw s t b<0):=by rw [d1,q na ns,e1];constructor<;>(rintro ⟨h1,h2⟩;exact ⟨h1,by omega⟩)
 have k2:¬ (b=s/\dV s a t):=by rw [d2,q nb ns];rintro ⟨h1,h2⟩;omega
 have k3:¬ (a=t/\dV t s b):=by rw [d3,q na nt];rintro ⟨h1,h2⟩;omega
 have k4:(b=t/\dV t s a)↔(hY b=hY t/\tw s t a<0):=by rw [d4,q nb nt,e2];constructor<;>(rintro ⟨h1,h2⟩;exact ⟨h1,by omega⟩)
 have m1:oK a b s=if hY a<hY s/\hY s<hY b/\0<tw a b s then 1 else 0:=by unfold oK;rw [if_neg (show ¬ (hY b<hY s/\hY s<hY a/\0<tw b a s) by omega)]
 have m2:oK a b t=if hY a<hY t/\hY t<hY b/\0<tw a b t then 1 else 0:=by unfold oK;rw [if_neg (show ¬ (hY b<hY t/\hY t<hY a/\0<tw b a t) by omega)]
 rw [m1,m2,if_neg k2,if_neg k3];unfold NT;simp only [k1,k4];clear hno d1 d2 d3 d4 e1 e2 q na nb ns nt hne k1 k2 k3 k4 m1 m2;generalize tw a b s=u1 at *;generalize tw a b t=u2 at *;generalize tw s t a=u3 at *;generalize tw s t b=u4 at *;generalize hY a=A at *;generalize hY b=B at *;generalize hY s=S at *;generalize hY t=T at *;rcases Int.lt_trichotomy A S with h1 | h1 | h1
 ·clear f1;rcases Int.lt_trichotomy B S with h3 | h3 | h3
  ·clear f2 f3;rw [if_neg (by omega),if_neg (by omega),if_neg (by omega),if_neg (by omega),if_neg (by omega),if_neg (by omega)];rfl
  ·clear f2 f3;rw [if_neg (by omega),if_neg (by omega),if_neg (by omega),if_neg (by omega),if_neg (by omega),if_neg (by omega)];rfl
  ·rcases Int.lt_trichotomy B T with h2 | h2 | h2
   ·have f3:=(f3 (by omega) (by omega) (by omega) (by omega)).1 h1 h3 h2;clear f2;simp only [h1,h3,h2,true_and,f3,show ¬ A=S by omega,show ¬ T<B by omega,show ¬ B=T by omega,show ¬ S<A by omega,false_and,and_false,if_false];omega
   ·obtain ⟨-,-,f2⟩:=f2 h2;clear f3;simp only [h1,h3,h2,true_and,show ¬ A=S by omega,show ¬ S<A by omega,show ¬ T<T by omega,show A<T by omega,hst,false_and,and_false,if_false];split<;>split<;>omega
   ·have f3:=(f3 (by omega) (by omega) (by omega) (by omega)).2.1 h1 h2;clear f2;simp only [h1,h3,h2,true_and,f3,show ¬ A=S by omega,show ¬ S<A by omega,show ¬ B<T by omega,show ¬ B=T by omega,show A<T by omega,false_and,and_false,if_false];omega
 ·obtain ⟨f1a,f1b,f1⟩:=f1 h1;clear f3;subst h1;rcases Int.lt_trichotomy B T with h2 | h2 | h2
  ·clear f2;simp only [hab,h2,true_and,show ¬ A<A by omega,show ¬ B=T by omega,show ¬ T<B by omega,false_and,and_false,if_false];omega
  ·obtain ⟨f2a,f2b,f2⟩:=f2 h2;subst h2;simp only [hab,true_and,show ¬ A<A by omega,show ¬ B<B by omega,false_and,and_false,if_false];split<;>split<;>omega
  ·clear f2;simp only [hab,hst,h2,true_and,show ¬ A<A by omega,show ¬ B=T by omega,show ¬ B<T by omega,false_and,and_false,if_false];split<;>split<;>omega
 ·clear f1;rcases Int.lt_trichotomy A T with h3 | h3 | h3
  ·rcases Int.lt_trichotomy B T with h2 | h2 | h2
   ·have f3:=(f3 (by omega) (by omega) (by omega) (by omega)).2.2.1 h1 h2;clear f2;simp only [h1,h2,h3,true_and,f3,show ¬ A<S by omega,show ¬ A=S by omega,show ¬ T<B by omega,show ¬ B=T by omega,show S<B by omega,false_and,and_false,if_false];omega
   ·clear f2 f3;subst h2;simp only [h1,h3,hst,true_and,show ¬ A<S by omega,show ¬ A=S by omega,show ¬ B<B by omega,false_and,and_false,if_false];omega
   ·have f3:=(f3 (by omega) (by omega) (by omega) (by omega)).2.2.2 h1 h3 h2;clear f2;simp only [h1,h2,h3,true_and,f3,show ¬ A<S by omega,show ¬ A=S by omega,show ¬ B<T by omega,show ¬ B=T by omega,false_and,and_false,if_false];omega
  ·clear f2 f3;rw [if_neg (by omega),if_neg (by omega),if_neg (by omega),if_neg (by omega),if_neg (by omega),if_neg (by omega)];rfl
  ·clear f2 f3;rw [if_neg (by omega),if_neg (by omega),if_neg (by omega),if_neg (by omega),if_neg (by omega),if_neg (by omega)];rfl
section
variable {α β:Type}
theorem fV (l:List α) (f g:α->Int) (h:∀ x∈l,f x=g x):(l.map f).sum=(l.map g).sum:=by rw [List.map_congr_left h]
theorem yA (l:List α) (f:α->Int) (h:∀ x∈l,f x=0):(l.map f).sum=0:=by
 induction l with
 | nil=>rfl
 | cons a l ih=>rw [List.map_cons,List.sum_cons,h a (by simp),ih (fun x hx=>h x (by simp [hx]))];rfl
theorem rG (l:List α) (f g:α->Int):(l.map fun x=>f x+g x).sum=(l.map f).sum+(l.map g).sum:=by
 induction l with
 | nil=>rfl
 | cons a l ih=>simp only [List.map_cons,List.sum_cons,ih];omega
theorem uq (l:List α) (f:α->Int):(l.map fun x=>-f x).sum=-(l.map f).sum:=by
 induction l with
 | nil=>rfl
 | cons a l ih=>simp only [List.map_cons,List.sum_cons,ih];omega
theorem Bo (l:List α) (c:Int) (f:α->Int):(l.map fun x=>c*f x).sum=c*(l.map f).sum:=by
 induction l with
 | nil=>simp
 | cons a l ih=>simp only [List.map_cons,List.sum_cons,ih,Int.mul_add]
theorem XF (l:List α) (m:List β) (f:α->β->Int):(l.map fun x=>(m.map fun y=>f x y).sum).sum=(m.map fun y=>(l.map fun x=>f x y).sum).sum:=by
 induction l with
 | nil=>simp only [List.map_nil,List.sum_nil];rw [yA m _ (fun _ _=>rfl)]
 | cons a l ih=>simp only [List.map_cons,List.sum_cons,ih];rw [rG]
theorem NV (n j:Nat) (f:Nat->Int) (h:∀ k,k<n->k≠j->f k=0):((List.range n).map f).sum=if j<n then f j else 0:=by
 induction n with
 | zero=>rfl
 | succ n ih =>
  rw [List.range_succ,List.map_append,List.sum_append,ih (fun k hk=>h k (by omega))];simp only [List.map_cons,List.map_nil,List.sum_cons,List.sum_nil,Int.add_zero];by_cases hj:j=n
  · subst hj;rw [if_neg (by omega),if_pos (by omega)];omega
  ·rw [h n (by omega) (fun e=>hj e.symm)];by_cases h2:j<n
   · rw [if_pos h2,if_pos (by omega)];omega
   · rw [if_neg h2,if_neg (by omega)];rfl
theorem sumT (n:Nat) (R:Nat->Int):((List.range n).map fun k=>R (k+1)-R k).sum=R n-R 0:=by
 induction n with
 | zero=>simp
 | succ n ih =>
  rw [List.range_succ,List.map_append,List.sum_append,ih];simp only [List.map_cons,List.map_nil,List.sum_cons,List.sum_nil];omega
theorem Kq (l:List α) (k:α->Int) (hk:(l.map k).Pairwise (· < ·)) (r:Int->Int) (x:Int) (hx:∃ y∈l,k y=x):(l.map fun y=>if x=k y then r (k y) else 0).sum=r x:=by
 induction l with
 | nil=>obtain ⟨y,hy,-⟩:=hx;cases hy
 | cons a l ih =>
  rw [List.map_cons,List.pairwise_cons] at hk;rw [List.map_cons,List.sum_cons];by_cases e:x=k a
  · rw [if_pos e,yA l _ (fun y hy=>if_neg (fun e2=>by have:=hk.1 (k y) (List.mem_map_of_mem hy);omega)),e];omega
  ·rw [if_neg e,ih hk.2 (by
    obtain ⟨y,hy,e2⟩:=hx;rcases List.mem_cons.1 hy with rfl | hy
    · exact absurd e2.symm e
    · exact ⟨y,hy,e2⟩)]
   omega
end
def jM (f:Pt->Pt->Int) (l:List Pt):Int:=((List.range (l.length-1)).map fun k=>f (l.getD k aB) (l.getD (k+1) aB)).sum
def cu (p:Pl) (z:Int->Int) (f:Pt->Pt->Int):Int:=(p.ah.map fun a=>z a.id*jM f (au p a)).sum
theorem H8 (p:Pl) (z:Int->Int) (f g:Pt->Pt->Int):cu p z (fun a b=>f a b+g a b)=cu p z f+cu p z g:=by
 unfold cu jM;rw [<- rG];exact fV _ _ _ fun a _=>by rw [rG,Int.mul_add]
theorem ad1 (p:Pl) (z:Int->Int) (f:Pt->Pt->Int):cu p z (fun a b=>-f a b)=-cu p z f:=by
 unfold cu jM;rw [<- uq];exact fV _ _ _ fun a _=>by rw [uq,Int.mul_neg]
theorem ad2 (p:Pl) (z:Int->Int) (f g:Pt->Pt->Int):cu p z (fun a b=>f a b-g a b)=cu p z f-cu p z g:=by
 have:=H8 p z f (fun a b=>-g a b)
 rw [ad1] at this;simp only [<- Int.sub_eq_add_neg] at this;exact this
theorem NW {p:Pl} {z:Int->Int} {f g:Pt->Pt->Int} (h:∀ a∈p.ah,∀ k,k+1<(au p a).length->f ((au p a).getD k aB) ((au p a).getD (k+1) aB)=g ((au p a).getD k aB) ((au p a).getD (k+1) aB)):cu p z f=cu p z g:=by
 unfold cu jM;refine fV _ _ _ fun a ha=>?_;congr 1;exact fV _ _ _ fun k hk=>h a ha k (by have:=List.mem_range.1 hk;omega)
def fZ (p:Pl) (z:Int->Int):Prop:=∀ n∈p.nodes,(p.ah.map fun a=>z a.id*((if a.dst=n.id then 1 else 0)-(if a.fr=n.id then 1 else 0))).sum=0
theorem zA (p:Pl) (a:Ar):(au p a).getD ((au p a).length-1) aB=nodeAt p a.dst:=by
 rw [fJ];unfold au
 show (nodeAt p a.fr::(a.via++[nodeAt p a.dst])).getD (a.via.length+1) aB=_
 rw [List.getD_cons_succ,List.getD_eq_getElem?_getD,List.getElem?_append_right (by omega)];simp
section
variable {p:Pl} (h:Valid p)
include h
theorem Valid.ad3 {z:Int->Int} (hz:fZ p z) (r:Int->Int):(p.ah.map fun a=>z a.id*(r a.dst-r a.fr)).sum=0:=by
 have e:(p.ah.map fun a=>z a.id*(r a.dst-r a.fr)).sum=(p.ah.map fun a=>(p.nodes.map fun n=>r n.id*(z a.id*((if a.dst=n.id then 1 else 0)-(if a.fr=n.id then 1 else 0)))).sum).sum:=by
  refine fV _ _ _ fun a ha=>?_;obtain ⟨n1,h1,e1,-⟩:=h.sound.yw ha;obtain ⟨n2,h2,e2,-⟩:=h.sound.zu ha;have s1:=Kq p.nodes (·.id) h.sound.nodes r a.fr ⟨n1,h1,e1⟩;have s2:=Kq p.nodes (·.id) h.sound.nodes r a.dst ⟨n2,h2,e2⟩;rw [<- s1,<- s2,Int.sub_eq_add_neg,<- uq,<- rG,<- Bo];refine fV _ _ _ fun n _=>?_;by_cases c1:a.dst=n.id<;>by_cases c2:a.fr=n.id<;>simp only [c1,c2,if_true,if_false]<;>grind
 rw [e,XF];refine yA _ _ fun n hn=>?_;rw [Bo,hz n hn,Int.mul_zero]
theorem Valid.Kr {z:Int->Int} (hz:fZ p z) (R:Pt->Int):cu p z (fun a b=>R b-R a)=0:=by
 rw [<- h.ad3 hz (fun i=>R (nodeAt p i))];unfold cu jM;refine fV _ _ _ fun a _=>?_;rw [sumT ((au p a).length-1) (fun k=>R ((au p a).getD k aB)),zA,zy]
theorem Valid.XG {a b:Ar} (ha:a∈p.ah) (hb:b∈p.ah) {k m:Nat} (hk:k+1<(au p a).length) (hm:m+1<(au p b).length)
  (h1:(au p a).getD k aB≠(au p b).getD m aB) (h2:(au p a).getD k aB≠(au p b).getD (m+1) aB) (h3:(au p a).getD (k+1) aB≠(au p b).getD m aB) (h4:(au p a).getD (k+1) aB≠(au p b).getD (m+1) aB) :
  nU ((au p a).getD k aB) ((au p a).getD (k+1) aB) ((au p b).getD m aB) ((au p b).getD (m+1) aB):=by
 have NY:∀ {c d:Ar} {i j:Nat},c∈p.ah->d∈p.ah->i+1<(au p c).length->j+1<(au p d).length->fH [(au p c).getD i aB,(au p c).getD (i+1) aB,(au p d).getD j aB,(au p d).getD (j+1) aB]=true:=fun hc hd hi hj =>
  CP (h.bV hc (by omega)) (h.bV hc hi) (h.bV hd (by omega)) (h.bV hd hj)
 have same:∀ {i j:Nat},i<j->j+1<(au p a).length->(au p a).getD i aB≠(au p a).getD (j+1) aB->(au p a).getD (i+1) aB≠(au p a).getD j aB->nU ((au p a).getD i aB) ((au p a).getD (i+1) aB) ((au p a).getD j aB) ((au p a).getD (j+1) aB):=by
  intro i j hij hj n1 n2;have hap:=h.tY.2.1 a ha i j hij hj;unfold Ci bQ at hap;simp only at hap;rw [if_neg] at hap
  ·rw [beq_iff_eq] at hap;unfold ig at hap;rw [if_pos (NY ha ha (by omega) hj)] at hap;exact nU.of (h.distinct ha (k:=i) (by omega)).1 hap
  ·rintro (e | ⟨e1,e2,e3⟩)
   · subst e;exact n2 rfl
   ·subst e1;apply n1;have hl:=zA p a;rw [show (au p a).length-1=j+1 by omega] at hl;rw [hl,zy,e3]
 by_cases hab:a=b
 ·subst hab;rcases Nat.lt_trichotomy k m with hkm | hkm | hkm
  · exact same hkm hm h2 h3
  · subst hkm;exact absurd rfl h1
  · exact (same hkm hk (fun e=>h3 e.symm) (fun e=>h2 e.symm)).comm
 ·have other:∀ {c d:Ar} {i j:Nat},c∈p.ah->d∈p.ah->i+1<(au p c).length->j+1<(au p d).length->sH p (bQ p c i) (bQ p d j)=true ->
    (au p c).getD i aB≠(au p d).getD j aB->(au p c).getD i aB≠(au p d).getD (j+1) aB->(au p c).getD (i+1) aB≠(au p d).getD j aB->(au p c).getD (i+1) aB≠(au p d).getD (j+1) aB ->
    nU ((au p c).getD i aB) ((au p c).getD (i+1) aB) ((au p d).getD j aB) ((au p d).getD (j+1) aB):=by
   intro c d i j hc hd hi hj hjo n1 n2 n3 n4;unfold sH at hjo;split at hjo
   ·exfalso;obtain ⟨n,hn,hat⟩:=List.any_eq_true.1 hjo;unfold Ef at hat;simp only [Bool.and_eq_true] at hat;have at_end:∀ {c:Ar} {i:Nat},c∈p.ah->i+1<(au p c).length->qX (bQ p c i).a (bQ p c i).b n.pt=true->(au p c).getD i aB=n.pt\/(au p c).getD (i+1) aB=n.pt:=by
     intro c i hc hi ho;rcases h.JX hc hi hn ho with ⟨e1,e2⟩ | ⟨e1,e2⟩
     · left;subst e1;rw [zy,e2];exact h.sound.sN hn
     ·right;have hl:=zA p c;rw [fJ,show c.via.length+2-1=i+1 by omega] at hl;rw [hl,e2];exact h.sound.sN hn
    rcases at_end hc hi hat.1.2 with e1 | e1<;>rcases at_end hd hj hat.2 with e2 | e2
    · exact n1 (e1.trans e2.symm)
    · exact n2 (e1.trans e2.symm)
    · exact n3 (e1.trans e2.symm)
    · exact n4 (e1.trans e2.symm)
   ·rw [beq_iff_eq] at hjo;unfold ig bQ at hjo;rw [if_pos (NY hc hd hi hj)] at hjo;exact nU.of (h.distinct hc hi).1 hjo
  have hpw:=h.tY.2.2;obtain ⟨i,hi,rfl⟩:=List.mem_iff_getElem.1 ha;obtain ⟨j,hj,rfl⟩:=List.mem_iff_getElem.1 hb;rw [List.pairwise_iff_getElem] at hpw;rcases Nat.lt_trichotomy i j with hij | hij | hij
  · exact other ha hb hk hm (hpw i j hi hj hij k hk m hm) h1 h2 h3 h4
  · subst hij;exact absurd rfl hab
  · exact (other hb ha hm hk (hpw j i hj hi hij m hm k hk) (fun e=>h1 e.symm) (fun e=>h3 e.symm) (fun e=>h2 e.symm) (fun e=>h4 e.symm)).comm
end
def RV (p:Pl) (a:Ar):Prop:=(∀ k,k+1<(au p a).length->Eh p (bQ p a k)=true)/\(∀ k m,k<m->m+1<(au p a).length->Ci (bQ p a k) (bQ p a m)=true)
def NZ (p:Pl) (a b:Ar):Prop:=∀ k,k+1<(au p a).length->∀ m,m+1<(au p b).length->sH p (bQ p a k) (bQ p b m)=true
theorem XH {p:Pl} {a:Ar} {s:Sg}:s∈Ei a (au p a)↔∃ k,k+1<(au p a).length/\s=bQ p a k:=by
 unfold Ei;rw [List.mem_map];constructor
 · rintro ⟨k,hk,rfl⟩;have:=List.mem_range.1 hk;exact ⟨k,by omega,rfl⟩
 · rintro ⟨k,hk,rfl⟩;exact ⟨k,List.mem_range.2 (by omega),rfl⟩
theorem ad4 (p:Pl) (hs:(p.ah.map (·.id)).Pairwise (· < ·)):sJ p=true↔(∀ a∈p.ah,RV p a)/\p.ah.Pairwise (NZ p):=by
 rw [List.pairwise_map] at hs;unfold sJ;rw [Rl];unfold Nc;rw [List.pairwise_flatMap];constructor
 ·rintro ⟨h1,h2,h3⟩;refine ⟨fun a ha=>⟨fun k hk=>h1 _ (List.mem_flatMap.2 ⟨a,ha,JW hk⟩),fun k m hkm hm=>?_⟩,?_⟩
  ·have h4:=h2 a ha;unfold Ei at h4;rw [List.pairwise_map,List.pairwise_iff_getElem] at h4;have h5:=h4 k m (by rw [List.length_range];omega) (by rw [List.length_range];omega) hkm;simp only [List.getElem_range] at h5;unfold AQ at h5;rw [if_pos rfl] at h5;exact h5
  ·refine (hs.and h3).imp ?_;rintro a b ⟨hlt,h4⟩ k hk m hm;have h5:=h4 _ (JW hk) _ (JW hm);unfold AQ at h5;rw [if_neg (show ¬ (bQ p a k).arc.id=(bQ p b m).arc.id from fun e=>by have e':a.id=b.id:=e;omega)] at h5;exact h5
 ·rintro ⟨h1,h2⟩;refine ⟨fun s hs'=>?_,fun a ha=>?_,?_⟩
  ·obtain ⟨a,ha,hs'⟩:=List.mem_flatMap.1 hs';obtain ⟨k,hk,rfl⟩:=XH.1 hs';exact (h1 a ha).1 k hk
  ·unfold Ei;rw [List.pairwise_map,List.pairwise_iff_getElem];intro k m hk hm hkm;simp only [List.getElem_range];rw [List.length_range] at hm;unfold AQ;rw [if_pos rfl];exact (h1 a ha).2 k m hkm (by omega)
  ·refine (hs.and h2).imp ?_;rintro a b ⟨hlt,h4⟩ s hs1 t ht;obtain ⟨k,hk,rfl⟩:=XH.1 hs1;obtain ⟨m,hm,rfl⟩:=XH.1 ht;unfold AQ;rw [if_neg (show ¬ (bQ p a k).arc.id=(bQ p b m).arc.id from fun e=>by have e':a.id=b.id:=e;omega)];exact h4 k hk m hm
theorem alu (p:Pl) (s t:Sg):sH p s t=sH p t s:=by
 unfold sH;rw [acL t.a t.b s.a s.b]
 have:Ef s t=Ef t s:=by
  funext x
  unfold Ef
  cases GH s.arc x.id<;>cases GH t.arc x.id<;>cases qX s.a s.b x.pt<;>cases qX t.a t.b x.pt<;>rfl
 rw [this]
theorem NZ.symm {p:Pl} {a b:Ar} (h:NZ p a b):NZ p b a:=fun k hk m hm=>by rw [alu];exact h m hm k hk
theorem all_map' {α:Type} (l:List α) (f:α->Bool):l.all f=(l.map f).all id:=by rw [List.all_map];rfl
theorem any_map' {α:Type} (l:List α) (f:α->Bool):l.any f=(l.map f).any id:=by rw [List.any_map];rfl
theorem alv (l:List Pt):AB l=false↔l.Pairwise (·≠·):=by
 constructor
 ·intro h;rw [List.pairwise_iff_getElem];intro i j hi hj hij e;have:=ace l j i hij hj e.symm
  rw [h] at this
  cases this
 ·intro h;rw [List.pairwise_iff_getElem] at h;exact acf l fun j k hk hj e=>h k j (by omega) hj hk e.symm
section
variable {p:Pl} (h:Valid p)
include h
end
theorem alx (a:Ar) (l:List Ar) (id:Int):iM (a::l) id=((if a.fr=id then (1:Int) else 0)+(if a.dst=id then 1 else 0))+iM l id:=by
 unfold iM;rw [List.map_cons,List.sum_cons]
theorem aly (l:List Ar) (id:Int):iM l id=0↔∀ a∈l,a.fr≠id/\a.dst≠id:=by
 induction l with
 | nil=>simp [iM]
 | cons a l ih =>
  rw [alx];have:=ab2 l id
  constructor
  ·intro h b hb;have h1:a.fr≠id:=fun e=>by rw [if_pos e] at h;split at h<;>omega
   have h2:a.dst≠id:=fun e=>by rw [if_neg h1,if_pos e] at h;omega
   rw [if_neg h1,if_neg h2] at h;rcases List.mem_cons.1 hb with rfl | hb
   · exact ⟨h1,h2⟩
   · exact ih.1 (by omega) b hb
  ·intro h;rw [if_neg (h a (by simp)).1,if_neg (h a (by simp)).2,ih.2 fun b hb=>h b (by simp [hb])];rfl
end Go.Proofs.YtialfdomhoojiaaGreat
