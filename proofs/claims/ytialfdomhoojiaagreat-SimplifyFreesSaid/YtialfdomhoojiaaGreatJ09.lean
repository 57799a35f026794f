import Derived.Test.YtialfdomhoojiaaGreatJ08
import Derived.Test.YtialfdomhoojiaaGreatJ04
import Derived.Test.YtialfdomhoojiaaGreatJ05
import Derived.Test.YtialfdomhoojiaaGreatJ07
set_option linter.unusedSimpArgs false
set_option linter.unusedVariables false
namespace Go.Proofs.YtialfdomhoojiaaGreat
open Go.RowKit
theorem Valid.short {p:Pl} (h:Valid p):Short p:=fun a ha=>by have:=h.Em ha;omega
theorem Short.long {p:Pl} (h:Short p):Gs p:=fun a ha=>by have:=h a ha;omega
theorem Valid.Xo {p:Pl} (h:Valid p) {d:Int} {a:Ar} (e:gW p d=some a):pathOf p (mO d)=some (aK p a):=by
 obtain ⟨ha,hi⟩:=Ph e;rw [hi];exact h.sound.path ha
theorem aeu (d:Int):max d (-d)=mO d:=by unfold mO;split<;>omega
theorem aev {p:Pl} {l:List Int} {k:Nat} (hk:k<l.length) {a:Ar} (e:gW p l[k]=some a):oD p l (k+1)=oD p l k+(if 0<l[k] then Ej (aK p a) else -Ej (aK p a)):=by
 have:l.getD k 0=l[k]:=by rw [List.getD_eq_getElem?_getD,List.getElem?_eq_getElem hk];rfl
 rw [oD,this];unfold Bh;rw [e]
theorem aew {p:Pl} {l:List Int} {k:Nat} (hk:k<l.length) (e:gW p l[k]=none):wS p l=0:=by
 unfold wS;rw [if_neg];rintro ⟨-,h⟩;have:=h _ (List.getElem_mem hk)
 rw [e] at this;cases this
theorem aex {p:Pl} {l:List Int} (hl:l.length<=512) (h:∀ j (hj:j<l.length),j<l.length->(gW p l[j]).isSome=true):wS p l=oD p l l.length:=by
 unfold wS;rw [if_pos];refine ⟨hl,fun d hd=>?_⟩;obtain ⟨j,hj,rfl⟩:=List.mem_iff_getElem.1 hd;exact h j hj hj
set_option maxRecDepth 100000 in
set_option maxHeartbeats 8000000 in
theorem aey (v u:Value) (p:Pl) (l:List Int) (w:World) (h:dh w v p) (hu:Ints w u l) (hv:Valid p) (hw:∀ d∈l,cZ d) :
  Calls Tryz.prog 120 #[v,u] w fun e w'=>e=.returned (.int .i64 (wS p l))/\Below w.heap.size w w':=by
 have HA:=Lib.hid (fun d (hd:cZ d) W (hW:Below w.heap.size w W)=>Xl v p d W (h.mono hW) hv.short.long hd);have HP:=Lib.hid (fun id W (hW:Below w.heap.size w W)=>DU v p id W (h.mono hW) hv.short);obtain ⟨_,_,_,al,rfl,hpa,⟨An,cn,rfl,-⟩,⟨⟨Aa,ca,rfl,-⟩,-⟩,⟨Af,cf,rfl,-⟩⟩:=h;obtain ⟨Al,cl,rfl,hl1,hl2,hR⟩:=hu;unfold maxLen at hl2;have HR:=Lib.hid hR;have HV:=Lib.hid hv;have HW:=Lib.hid hw;generalize al.length=na at *;generalize p.nodes.length=nn at *;generalize p.faces.length=nf at *;obtain ⟨q,hq⟩:∃ q,wS p l=q:=⟨_,rfl⟩;rw [hq];have Hq:=Lib.hid hq;clear hpa hR hv hw hq;go_enter Tryz.func120,Tryz.ntmps120;by_cases hbig:512<l.length
 case pos =>
  have hbig':512<(l.length:Int):=by omega
  have hf:q=0:=by rw [<- Hq.out];unfold wS;rw [if_neg (by omega)]
  subst hf;go_wp2_with fail;go_ret;exact ⟨rfl,bA (bR w) _⟩
 have hbig':¬ 512<(l.length:Int):=by omega
 go_wp2_with fail;obtain ⟨W0,hW⟩:∃ W0:World,W0=w.alloc (.cells #[.slice An nn cn,.slice Aa na ca,.slice Af nf cf] 26):=⟨_,rfl⟩;have HB0:=Lib.hid (show Below w.heap.size w W0 by rw [hW];exact bA (bR w) _);have eF:=Lib.hid (show ah W0 w.heap.size 26 #[.slice An nn cn,.slice Aa na ca,.slice Af nf cf] by rw [hW];exact ah.made rfl _ _);rw [<- hW];clear hW;go_loopw [4,18] (fun n i wr=>∃ k:Nat,k<=l.length/\i=.int .i64 k/\n=.int .i64 (oD p l k)/\Below W0.heap.size W0 wr/\∀ j (hj:j<l.length),j<k->(gW p l[j]).isSome=true) (fun _ i _=>l.length-(intOf i).toNat)
 case atStart => exact ⟨0,Nat.zero_le _,rfl,rfl,bR W0,fun _ _ h=>by omega⟩
 case round =>
  obtain ⟨k,hk,rfl,rfl,hb,hno⟩:=hrel;have Hb:=Lib.hid hb;have Hno:=Lib.hid hno;have X2:=eF.out.keep hb;clear hb hno;obtain ⟨bF,bH,bI,bM,-,-,-⟩:=X2.aJ;by_cases hlt:k<l.length
  case neg =>
   have hkk:k=l.length:=by omega
   subst hkk;have hf:=aex (p:=p) (l:=l) (by omega) Hno.out;rw [Hq.out] at hf;have HF:=Lib.hid hf;clear hf;go_wp2_with fail;go_ret;exact ⟨dY HF.out.symm,bT HB0.out Hb.out⟩
  obtain ⟨b,o,rfl,hlb,c0⟩:=(HR.out.mono (bT HB0.out Hb.out)).int hlt;have hwd:=HW.out _ (List.getElem_mem hlt);have uw:=Lib.hid (HA.out l[k] hwd)
  cases har:gW p l[k] with
  | none =>
   rw [har] at uw;have hf:=aew hlt har;rw [Hq.out] at hf;subst hf;clear har hwd;go_wp2_with fail;refine (uw.out _ (bT HB0.out Hb.out)).mono ?_;rintro e w1 ⟨A1,n1,c1,rfl,hb1⟩;have B1:=Lib.hid (bT Hb.out hb1);clear hb1;simp only [Option.isSome_none];go_wp2_with fail;go_ret;exact ⟨rfl,bT HB0.out (bA B1.out _)⟩
  | some a =>
  rw [har] at uw;have hst:=aev hlt har;have hpo:=HV.out.Xo har;have ha:=(Ph har).1;have hpl:=jQ p a;have hvl:=HV.out.Em ha;have Pj:=Lib.hid (fun k hk=>HV.out.Xn ha k hk);have hub:=HV.out.aes l k;have hne:l[k]≠-9223372036854775808/\l[k]≠0:=by
   constructor
   · intro e;rw [e] at har;unfold gW at har;rw [if_pos (.inr rfl)] at har;cases har
   · intro e;rw [e] at har;unfold gW at har;rw [if_pos (.inl rfl)] at har;cases har
  have hbd:=Xk hwd;have jR:=Lib.hid (HP.out (max l[k] (-l[k])));have hpm:pathOf p (max l[k] (-l[k]))=some (aK p a):=by rw [aeu];exact hpo
  rw [hpm] at jR;unfold Jo at jR;simp only [Option.getD_some,Option.isSome_some,if_true] at jR;have iG:=Lib.hid hst;have HSo:=Lib.hid (show (gW p l[k]).isSome=true by rw [har];rfl);have zh:=Lib.hid (all_succ (p:=fun d=>(gW p d).isSome=true) Hno.out hlt HSo.out);have hk1:IntKind.i64.wrap (-l[k])=-l[k]:=IntWalk.i64_in _ (by omega);have AZ:=Lib.hid (fun q (hq:q∈aK p a)=>HV.out.Xm ha hq);have Gw:=Lib.hid (Pj.out ((aK p a).length-1) (by omega));have Pm:=Lib.hid hne;have J6:=Lib.hid (show k+1<=512 by omega);clear hst hpo har hwd hpm hne hbd;unfold Ej at iG;generalize oD p l k=n at *;generalize hP:aK p a=P at *;generalize l[k]=d at *;generalize a.via.length=vl at *;go_wp2_with fail;refine (uw.out _ (bT HB0.out Hb.out)).mono ?_;rintro e w1 ⟨A1,n1,c1,rfl,hb1⟩;replace X2:=X2.keep hb1;have B1:=Lib.hid (bT Hb.out hb1);clear hb1 bF bH bI bM uw c0 hlb;simp only [Option.isSome_some,Option.getD_some]
  try clear bF
  try clear bH
  try clear bI
  try clear bM
  obtain ⟨bF,bH,bI,bM,-,-,-⟩:=X2.aJ;go_wp2_with fail;refine (jR.out _ (bT HB0.out (bA B1.out _))).mono ?_;rintro e w2 ⟨A2,c2,rfl,hb2,ho2⟩;have B2:=Lib.hid (bT (bA B1.out _) hb2);obtain ⟨Aq,cq,he,hq1,hq2,Bj⟩:=ho2.sl;injection he with e1 e2 e3;subst e1 e3;clear e2;unfold maxLen at hq2;have Xp:=Lib.hid Bj;clear hb2 ho2 Bj jR X2 bF bH bI bM;obtain ⟨N,hN⟩:∃ N,P.length=N+1:=⟨P.length-1,by omega⟩;have HN:=Lib.hid hN;have hNs:N<=65:=by omega
  rw [hN] at Gw iG;simp only [Nat.add_sub_cancel] at Gw iG;have k2:IntKind.i64.wrap (N:Int)=(N:Int):=IntWalk.i64_in _ (by omega);rw [hN] at hq1 ⊢;clear hN hpl hvl;go_wp2_with fail;obtain ⟨W2,rfl⟩:∃ W2:World,W2=w2:=⟨_,rfl⟩;go_loopw [11,44] (fun s i wx=>∃ j:Nat,j<=N/\i=.int .i64 j/\s=.int .i64 (o7 P j)/\Below W2.heap.size W2 wx) (fun _ i _=>N-(intOf i).toNat)
  case atStart => exact ⟨0,Nat.zero_le _,rfl,rfl,bR W2⟩
  case round =>
   obtain ⟨j,hj,rfl,rfl,hbx⟩:=hrel;have gy:=Lib.hid hbx;clear hbx;by_cases hjl:j<N
   case pos =>
    have hP1:j<P.length:=by have:=HN.out;omega
    have hP2:j+1<P.length:=by have:=HN.out;omega
    obtain ⟨b1,o1,hA1,Pn,c0,c1'⟩:=(Xp.out.mono gy.out).pt hP1;subst hA1;obtain ⟨b2,o2,hA2,-,d0,d1⟩:=(Xp.out.mono gy.out).pt hP2;simp only [Option.some.injEq,Addr.mk.injEq,and_true] at hA2;obtain ⟨rfl,rfl⟩:=hA2;have g1:=AZ.out _ (List.getElem_mem hP1);have g2:=AZ.out _ (List.getElem_mem hP2);have x1:=J5 g1.1 g2.2;have x2:=J5 g2.1 g1.2;have tb:=Pj.out j (by have:=HN.out;omega);have tb2:=Pj.out (j+1) (by have:=HN.out;omega);have hstep:o7 P (j+1)=o7 P j+(P[j].x*P[j+1].y-P[j+1].x*P[j].y):=by
     rw [o7];unfold Gv;simp only [List.getD_eq_getElem?_getD,List.getElem?_eq_getElem hP1,List.getElem?_eq_getElem hP2,Option.getD_some]
    rw [hstep] at tb2;have En:=Lib.hid hstep;clear hstep g1 g2;generalize P[j]=p1 at *;generalize P[j+1]=p2 at *;generalize hT:o7 P j=T at *;have q1:0<=(j:Int):=by omega
    have q2:(j:Int)<(N:Int)+1:=by omega
    have q3:0<=(j:Int)+1:=by omega
    have q4:(j:Int)+1<(N:Int)+1:=by omega
    have q5:((j:Int)+1).toNat=j+1:=by omega
    have m0:IntKind.i64.wrap ((j:Int)+1)=(j:Int)+1:=IntWalk.i64_in _ (by omega);have m1:IntKind.i64.wrap (p1.x*p2.y)=p1.x*p2.y:=IntWalk.i64_in _ (by omega);have m2:IntKind.i64.wrap (p2.x*p1.y)=p2.x*p1.y:=IntWalk.i64_in _ (by omega);have m3:IntKind.i64.wrap (p1.x*p2.y-p2.x*p1.y)=p1.x*p2.y-p2.x*p1.y:=IntWalk.i64_in _ (by omega);have m4:IntKind.i64.wrap (T+(p1.x*p2.y-p2.x*p1.y))=T+(p1.x*p2.y-p2.x*p1.y):=IntWalk.i64_in _ (by omega);clear x1 x2 tb tb2 hT hub;go_upto_region 16 with fail;refine dN (Since wr) (.run 28 0 0 (.done)) (by kernel_rfl) (bD (bR _)) (by kernel_rfl) (by kernel_rfl) (Nat.le_of_ble_eq_true (by kernel_rfl)) ?_;intro dO QR aj aA hS
    iterate 28
     apply aH;exact aj;exact rfl;exact hS;exact rfl
     · intro _ hqc;go_simp;try rfl
     try simp only [pu]
    refine dF ?_;refine aA.down _ _ ?_;have hB:Below wr.heap.size wr wr.drew:=hS;clear hS aA aj;have Bx:=Lib.hid (bT gy.out hB);clear hB m0 m1 m2 m3 m4;go_wp2_with fail;go_roundw
    case rel => exact ⟨j+1,by omega,by go_num,by rw [En.out],Bx.out⟩
    case measure => simp [intOf];omega
   case neg =>
   have hjj:j=N:=by omega
   subst hjj;have htl:=Gw.out;have hsz:=J6.out;have Bx:=Lib.hid (bT B2.out gy.out);generalize hT:o7 P j=T at *;clear hT;by_cases hneg:d<0
   ·have hst:=iG.out;rw [if_neg (by omega)] at hst;have Po:=Lib.hid hst;have m1:IntKind.i64.wrap (-T)=-T:=IntWalk.i64_in _ (by omega);have m2:IntKind.i64.wrap (n + -T)=n + -T:=IntWalk.i64_in _ (by omega);clear hst htl hub hsz;go_wp2_with fail;go_roundw
    case rel => exact ⟨k+1,by omega,by go_num,by rw [Po.out],Bx.out,zh.out⟩
    case measure => simp [intOf];omega
   ·have hst:=iG.out;rw [if_pos (by have:=Pm.out.2;omega)] at hst;have Po:=Lib.hid hst;have m2:IntKind.i64.wrap (n+T)=n+T:=IntWalk.i64_in _ (by omega);clear hst htl hub hsz;go_wp2_with fail;go_roundw
    case rel => exact ⟨k+1,by omega,by go_num,by rw [Po.out],Bx.out,zh.out⟩
    case measure => simp [intOf];omega
def wU (F:Int->Int) (K:Nat):Prop:=∀ x,F (pw F x K)=pw F x K
theorem Gx {F:Int->Int} {x:Int} {K:Nat} (h:F (pw F x K)=pw F x K) (n:Nat):pw F x (K+n)=pw F x K:=by
 induction n with
 | zero=>rfl
 | succ n ih=>show F (pw F x (K+n))=_;rw [ih,h]
theorem Xq {F:Int->Int} {x:Int} {i j:Nat} (hi:F (pw F x i)=pw F x i) (hj:F (pw F x j)=pw F x j):pw F x i=pw F x j:=by
 rcases Nat.le_total i j with h | h
 ·have:=Gx hi (j-i)
  rw [show i+(j-i)=j by omega] at this;exact this.symm
 ·have:=Gx hj (i-j)
  rw [show j+(i-j)=i by omega] at this;exact this
theorem wU.more {F:Int->Int} {K M:Nat} (h:wU F K) (hm:K<=M):wU F M:=by
 intro x;have:=Gx (h x) (M-K)
 rw [show K+(M-K)=M by omega] at this;rw [this];exact h x
theorem wU.eq {F:Int->Int} {K M:Nat} (h:wU F K) (hm:K<=M) (x:Int):pw F x M=pw F x K:=Xq (h.more hm x) (h x)
def jM (F:Int->Int) (a b:Int) (i:Int):Int:=if i=a then b else F i
theorem Xr {F:Int->Int} {a b x:Int} (n:Nat) (h:∀ j,j<n->pw F x j≠a):pw (jM F a b) x n=pw F x n:=by
 induction n with
 | zero=>rfl
 | succ n ih =>
  show jM F a b (pw (jM F a b) x n)=F (pw F x n)
  rw [ih (fun j hj=>h j (by omega))];unfold jM;rw [if_neg (h n (by omega))]
theorem Xt {P:Nat->Prop} [DecidablePred P] : ∀ n,P n->∃ j,j<=n/\P j/\∀ i,i<j->¬ P i
 | 0,h=>⟨0,Nat.le_refl _,h,fun i hi=>by omega⟩
 | n+1,h=>by
  by_cases h2:∃ m,m<=n/\P m
  ·obtain ⟨m,hm,hp⟩:=h2;obtain ⟨j,h1,h3,h4⟩:=Xt m hp;exact ⟨j,by omega,h3,h4⟩
  · exact ⟨n+1,Nat.le_refl _,h,fun i hi hp=>h2 ⟨i,by omega,hp⟩⟩
termination_by n=>n
decreasing_by omega
theorem Xu {F:Int->Int} {K:Nat} (h:wU F K) {a b:Int} (ha:F a=a) (hb:F b=b) (hne:a≠b) :
  wU (jM F a b) (K+1)/\∀ x,pw (jM F a b) x (K+1)=if pw F x K=a then b else pw F x K:=by
 have hfb:jM F a b b=b:=by unfold jM;rw [if_neg (fun e=>hne e.symm),hb]
 have key:∀ x,pw (jM F a b) x (K+1)=if pw F x K=a then b else pw F x K:=by
  intro x;by_cases hx:pw F x K=a
  ·rw [if_pos hx];obtain ⟨j,h1,h2,h3⟩:=Xt (P:=fun j=>pw F x j=a) K hx;have e1:pw (jM F a b) x j=a:=by rw [Xr j h3];exact h2
   have e2:pw (jM F a b) x (j+1)=b:=by
    show jM F a b (pw (jM F a b) x j)=b
    rw [e1];unfold jM;rw [if_pos rfl]
   have e3:jM F a b (pw (jM F a b) x (j+1))=pw (jM F a b) x (j+1):=by rw [e2];exact hfb
   have:=Gx e3 (K-j)
   rw [show j+1+(K-j)=K+1 by omega] at this;rw [this,e2]
  ·rw [if_neg hx];have hn:∀ j,j<K+1->pw F x j≠a:=by
    intro j hj e;have e2:F (pw F x j)=pw F x j:=by rw [e];exact ha
    exact hx ((Xq (h x) e2).trans e)
   rw [Xr (K+1) hn];exact Gx (h x) 1
 refine ⟨fun x=>?_,key⟩;rw [key x];split
 · exact hfb
 ·rename_i hx;unfold jM;rw [if_neg hx];exact h x
def qJ (l:List Nd) (i:Int):Int:=if i∈l.map (·.id) then i else 0
theorem aez (l:List Nd):wU (qJ l) 1:=by
 intro x
 show qJ l (qJ l x)=qJ l x
 unfold qJ;by_cases h:x∈l.map (·.id)
 · rw [if_pos h,if_pos h]
 · rw [if_neg h];split<;>rfl
def Gy (K:Nat) (s:(Int->Int)×Int) (a:Ar):(Int->Int)×Int :=
 if pw s.1 a.fr K=pw s.1 a.dst K then s else (jM s.1 (pw s.1 a.fr K) (pw s.1 a.dst K),s.2-1)
def qK (p:Pl) (k:Nat):(Int->Int)×Int:=(p.au.take k).foldl (Gy (p.au.length+1)) (qJ p.nodes,(p.nodes.length:Int))
theorem Pq (p:Pl) (k:Nat) (hk:k<p.au.length):qK p (k+1)=Gy (p.au.length+1) (qK p k) p.au[k]:=by
 unfold qK;rw [List.take_succ_eq_append_getElem hk,List.foldl_append];rfl
structure aeA (p:Pl) (k:Nat) (s:(Int->Int)×Int):Prop where
 flat:wU s.1 (k+1)
 bd:∀ x,-1073741824<=s.1 x/\s.1 x<=1073741824
 lo:(p.nodes.length:Int)-k<=s.2
 hi:s.2<=p.nodes.length
theorem aeB {p:Pl} (h:Valid p) (k:Nat) (hk:k<=p.au.length):aeA p k (qK p k):=by
 induction k with
 | zero =>
  refine ⟨aez _,fun x=>?_,by simp [qK],by simp [qK]⟩
  show -1073741824<=qJ p.nodes x/\qJ p.nodes x<=1073741824
  unfold qJ;split
  ·rename_i hm;obtain ⟨n,hn,rfl⟩:=List.mem_map.1 hm;have:=h.ad1 hn
   omega
  · omega
 | succ k ih =>
  obtain ⟨h1,h2,h3,h4⟩:=ih (by omega);rw [Pq p k (by omega)];generalize qK p k=s at *;unfold Gy;split
  · exact ⟨h1.more (by omega),h2,by omega,h4⟩
  ·rename_i hne;have e1:∀ x,s.1 (pw s.1 x (p.au.length+1))=pw s.1 x (p.au.length+1):=h1.more (by omega);refine ⟨(Xu h1 (e1 _) (e1 _) hne).1,fun x=>?_,by show _<=s.2-1;omega,by show s.2-1<=_;omega⟩
   show -1073741824<=jM _ _ _ x/\jM _ _ _ x<=1073741824
   unfold jM;split
   · rw [<- e1];exact h2 _
   · exact h2 _
def hY (p:Pt):Int:=8388608*p.y+p.x
instance (ux uy vx vy:Int):Decidable (nY ux uy vx vy):=by unfold nY iQ;infer_instance
instance (o a b:Pt):Decidable (kT o a b):=by unfold kT;infer_instance
def cr1 (a b v:Pt):Int:=if hY a<hY v/\hY v<hY b/\0<tw a b v then 1 else if hY b<hY v/\hY v<hY a/\0<tw b a v then -1 else 0
theorem aeC (a b s t:Pt):tw a b t-tw a b s=tw s t a-tw s t b:=by unfold tw;grind
theorem aeD (a b s t:Pt):aC a b s t=tw a b t-tw a b s:=by unfold tw aC;grind
theorem aeE (a s t:Pt):aC a s s t=tw s t a:=by unfold tw aC;grind
theorem aeF (a b s:Pt):aC a s a b=-tw a b s:=by unfold tw aC;grind
theorem aeG {a b s t:Pt} (hab:a≠b) (h:uV a b s t=0) (hd:tw a b t-tw a b s≠0) :
  ¬ (tw a b s<=0/\0<=tw a b t/\tw s t b<=0/\0<=tw s t a)/\¬ (0<=tw a b s/\tw a b t<=0/\0<=tw s t b/\tw s t a<=0):=by
 have e:=aeC a b s t;unfold uV at h;rw [if_neg (fun h=>hab h.1),aeE a s t,aeF a b s,aeD a b s t,if_neg hd] at h;split at h
 ·split at h
  · cases h
  · omega
 ·split at h
  · cases h
  · omega
def Xv (a b s t:Pt):Prop:=tw a b t-tw a b s≠0->¬ (tw a b s<=0/\0<=tw a b t/\tw s t b<=0/\0<=tw s t a)/\¬ (0<=tw a b s/\tw a b t<=0/\0<=tw s t b/\tw s t a<=0)
theorem Xv.of {a b s t:Pt} (hab:a≠b) (h:uV a b s t=0):Xv a b s t:=aeG hab h
section
variable {α β:Type}
theorem Gz (l:List α) (f g:α->Int) (h:∀ x∈l,f x=g x):(l.map f).sum=(l.map g).sum:=by rw [List.map_congr_left h]
theorem Xw (l:List α) (f:α->Int) (h:∀ x∈l,f x=0):(l.map f).sum=0:=by
 induction l with
 | nil=>rfl
 | cons a l ih=>rw [List.map_cons,List.sum_cons,h a (by simp),ih (fun x hx=>h x (by simp [hx]))];rfl
theorem Xx (l:List α) (f g:α->Int):(l.map fun x=>f x+g x).sum=(l.map f).sum+(l.map g).sum:=by
 induction l with
 | nil=>rfl
 | cons a l ih=>simp only [List.map_cons,List.sum_cons,ih];omega
theorem Xy (l:List α) (f:α->Int):(l.map fun x=>-f x).sum=-(l.map f).sum:=by
 induction l with
 | nil=>rfl
 | cons a l ih=>simp only [List.map_cons,List.sum_cons,ih];omega
theorem aeH (l:List α) (k:α->Int) (hk:(l.map k).Pairwise (· < ·)) (r:Int->Int) (x:Int) (hx:∃ y∈l,k y=x):(l.map fun y=>if x=k y then r (k y) else 0).sum=r x:=by
 induction l with
 | nil=>obtain ⟨y,hy,-⟩:=hx;cases hy
 | cons a l ih =>
  rw [List.map_cons,List.pairwise_cons] at hk;rw [List.map_cons,List.sum_cons];by_cases e:x=k a
  · rw [if_pos e,Xw l _ (fun y hy=>if_neg (fun e2=>by have:=hk.1 (k y) (List.mem_map_of_mem hy);omega)),e];omega
  ·rw [if_neg e,ih hk.2 (by
    obtain ⟨y,hy,e2⟩:=hx;rcases List.mem_cons.1 hy with rfl | hy
    · exact absurd e2.symm e
    · exact ⟨y,hy,e2⟩)]
   omega
end
def stp (f:Pt->Pt->Int) (l:List Pt):Int:=((List.range (l.length-1)).map fun k=>f (l.getD k aQ) (l.getD (k+1) aQ)).sum
def wnS (p:Pl) (z:Int->Int) (f:Pt->Pt->Int):Int:=(p.au.map fun a=>z a.id*stp f (aK p a)).sum
def Bl (p:Pl) (z:Int->Int):Prop:=∀ n∈p.nodes,(p.au.map fun a=>z a.id*((if a.dst=n.id then 1 else 0)-(if a.fr=n.id then 1 else 0))).sum=0
section
variable {p:Pl} (h:Valid p)
include h
end
def Pv (p:Pl) (a b:Ar):Prop:=∀ k,k+1<(aK p a).length->∀ m,m+1<(aK p b).length->uX p (dQ p a k) (dQ p b m)=true
theorem aeI (p:Pl) (s t:Sg):uX p s t=uX p t s:=by
 unfold uX;rw [Vy t.a t.b s.a s.b]
 have:DL s t=DL t s:=by
  funext x
  unfold DL
  cases FT s.arc x.id<;>cases FT t.arc x.id<;>cases ql s.a s.b x.pt<;>cases ql t.a t.b x.pt<;>rfl
 rw [this]
theorem Pv.symm {p:Pl} {a b:Ar} (h:Pv p a b):Pv p b a:=fun k hk m hm=>by rw [aeI];exact h m hm k hk
section
variable {p:Pl} (h:Valid p)
include h
end
theorem aeJ (a:Ar) (l:List Ar) (id:Int):kS (a::l) id=((if a.fr=id then (1:Int) else 0)+(if a.dst=id then 1 else 0))+kS l id:=by
 unfold kS;rw [List.map_cons,List.sum_cons]
theorem aeK (l:List Ar) (id:Int):kS l id=0↔∀ a∈l,a.fr≠id/\a.dst≠id:=by
 induction l with
 | nil=>simp [kS]
 | cons a l ih =>
  rw [aeJ];have:=UQ l id
  constructor
  ·intro h b hb;have h1:a.fr≠id:=fun e=>by rw [if_pos e] at h;split at h<;>omega
   have h2:a.dst≠id:=fun e=>by rw [if_neg h1,if_pos e] at h;omega
   rw [if_neg h1,if_neg h2] at h;rcases List.mem_cons.1 hb with rfl | hb
   · exact ⟨h1,h2⟩
   · exact ih.1 (by omega) b hb
  ·intro h;rw [if_neg (h a (by simp)).1,if_neg (h a (by simp)).2,ih.2 fun b hb=>h b (by simp [hb])];rfl
def ltF (v u a b:Pt):Int:=cr1 a b v-(if a=v/\kT v u b then 1 else 0)+(if b=v/\kT v u a then 1 else 0)
def ltW (p:Pl) (z:Int->Int) (v u:Pt):Int:=wnS p z (ltF v u)
section
variable {p:Pl} (h:Valid p)
include h
end
section
variable {p:Pl} (h:Valid p)
include h
end
def Hz (p:Pl) (z:Int->Int) (d:Int):Int:=ltW p z (nodeAt p (uq p d)) (fJ p d)
section
variable {p:Pl} (h:Valid p)
include h
end
set_option linter.unusedSectionVars false
def mrg (r:Int->Int) (a b x:Int):Int:=if r x=r a then r b else r x
structure Px (U:List Int) (r:Int->Int):Prop where
 mem:∀ x∈U,r x∈U
 idem:∀ x∈U,r (r x)=r x
theorem Px.mrg {U:List Int} {r:Int->Int} (h:Px U r) {a b:Int} (hb:b∈U):Px U (mrg r a b):=by
 constructor
 ·intro x hx;unfold Go.Proofs.YtialfdomhoojiaaGreat.mrg;split
  · exact h.mem b hb
  · exact h.mem x hx
 ·intro x hx;unfold Go.Proofs.YtialfdomhoojiaaGreat.mrg;by_cases e:r x=r a
  ·rw [if_pos e,h.idem b hb];split<;>rfl
  · rw [if_neg e,h.idem x hx,if_neg e]
def kK (p:Pl) (k:Nat) (x:Int):Int:=pw (qK p k).1 x (p.au.length+1)
def wV (p:Pl) (k:Nat) (a:Ar):Prop:=kK p k a.fr≠kK p k a.dst
instance (p:Pl) (k:Nat) (a:Ar):Decidable (wV p k a):=by unfold wV;infer_instance
def Bq (p:Pl):List Int:=p.nodes.map (·.id)
section
variable {p:Pl} (h:Valid p)
include h
theorem Valid.Xz {a:Ar} (ha:a∈p.au):a.fr∈Bq p/\a.dst∈Bq p:=by
 obtain ⟨n1,h1,e1,-⟩:=h.sound.JQ ha;obtain ⟨n2,h2,e2,-⟩:=h.sound.JR ha;exact ⟨List.mem_map.2 ⟨n1,h1,e1⟩,List.mem_map.2 ⟨n2,h2,e2⟩⟩
theorem Valid.XD {k:Nat} (hk:k<p.au.length):(kK p (k+1)=if wV p k p.au[k] then mrg (kK p k) p.au[k].fr p.au[k].dst else kK p k)/\(qK p (k+1)).2=(qK p k).2-(if wV p k p.au[k] then 1 else 0):=by
 have ho:=aeB h k (by omega);by_cases ht:wV p k p.au[k]
 ·rw [if_pos ht,if_pos ht];unfold wV kK at ht;unfold kK;rw [Pq p k hk];unfold Gy;rw [if_neg ht];refine ⟨?_,rfl⟩;have hr:∀ x,(qK p k).1 (pw (qK p k).1 x (p.au.length+1))=pw (qK p k).1 x (p.au.length+1):=ho.flat.more (by omega);obtain ⟨h1,h2⟩:=Xu ho.flat (hr p.au[k].fr) (hr p.au[k].dst) ht
  funext x
  show pw (jM _ _ _) x (p.au.length+1)=mrg _ _ _ x
  rw [h1.eq (M:=p.au.length+1) (by omega),h2 x];unfold mrg;simp only;rw [<- ho.flat.eq (M:=p.au.length+1) (by omega) x]
 ·rw [if_neg ht,if_neg ht];unfold wV kK at ht;unfold kK;rw [Pq p k hk];unfold Gy;rw [if_pos (Classical.byContradiction ht)];exact ⟨rfl,by omega⟩
theorem Valid.J7 {x:Int} (hx:x∈Bq p):kK p 0 x=x:=by
 have h0:qJ p.nodes x=x:=if_pos hx;have:∀ n,pw (qJ p.nodes) x n=x:=by
  intro n
  induction n with
  | zero=>rfl
  | succ n ih=>show qJ p.nodes (pw (qJ p.nodes) x n)=x;rw [ih,h0]
 exact this _
end
def uz (p:Pl) (c:Int->Int) (n:Int):Int:=(p.au.map fun a=>c a.id*((if a.dst=n then 1 else 0)-(if a.fr=n then 1 else 0))).sum
theorem J8 (p:Pl) (c d:Int->Int) (n:Int):uz p (fun i=>c i+d i) n=uz p c n+uz p d n:=by
 unfold uz;rw [<- Xx];exact Gz _ _ _ fun a _=>by rw [Int.add_mul]
theorem aeL (p:Pl) (c:Int->Int) (n:Int):uz p (fun i=>-c i) n=-uz p c n:=by
 unfold uz;rw [<- Xy];exact Gz _ _ _ fun a _=>by rw [Int.neg_mul]
def zl (a:Ar) (i:Int):Int:=if i=a.id then 1 else 0
def wW (p:Pl) (k:Nat) (c:Int->Int):Prop:=∀ j (hj:j<p.au.length),c p.au[j].id≠0->j<k/\wV p j p.au[j]
section
variable {p:Pl} (h:Valid p)
include h
theorem Valid.aeM {a:Ar} (ha:a∈p.au) (n:Int):uz p (zl a) n=(if a.dst=n then 1 else 0)-(if a.fr=n then 1 else 0):=by
 unfold uz zl;have:=aeH p.au (·.id) h.sound.au (fun _=>(if a.dst=n then (1:Int) else 0)-(if a.fr=n then 1 else 0)) a.id ⟨a,ha,rfl⟩
 rw [<- this];refine Gz _ _ _ fun b hb=>?_;by_cases e:a.id=b.id
 ·have:=h.ad2 ha hb e
  subst this;rw [if_pos rfl,if_pos rfl];omega
 · rw [if_neg (fun e2=>e e2.symm),if_neg e];omega
theorem Valid.chain (k:Nat) (hk:k<=p.au.length):∀ x∈Bq p,∀ y∈Bq p,kK p k x=kK p k y->∃ c,wW p k c/\∀ n,uz p c n=(if y=n then 1 else 0)-(if x=n then 1 else 0):=by
 induction k with
 | zero =>
  intro x hx y hy e;rw [h.J7 hx,h.J7 hy] at e;subst e;refine ⟨fun _=>0,fun j hj h0=>absurd rfl h0,fun n=>?_⟩;unfold uz;rw [Xw _ _ (fun a _=>Int.zero_mul _)];omega
 | succ k ih =>
  intro x hx y hy e;have ih:=ih (by omega);have hup:∀ {c},wW p k c->wW p (k+1) c:=fun hc j hj h0=>⟨by have:=(hc j hj h0).1;omega,(hc j hj h0).2⟩;rw [(h.XD (k:=k) (by omega)).1] at e;by_cases ht:wV p k p.au[k]
  ·rw [if_pos ht] at e;have ha:=List.getElem_mem (show k<p.au.length by omega);have hm:=h.Xz ha;have h1:=h.aeM ha;have hs1:wW p (k+1) (zl p.au[k]):=fun j hj h0=>by
    unfold zl at h0;split at h0
    ·rename_i e2;have h2:j=k:=by
      have hpw:=h.sound.au;rw [List.pairwise_map,List.pairwise_iff_getElem] at hpw;rcases Nat.lt_trichotomy j k with h3 | h3 | h3
      · have:=hpw j k hj (by omega) h3;omega
      · exact h3
      · have:=hpw k j (by omega) hj h3;omega
     subst h2;exact ⟨by omega,ht⟩
    · exact absurd rfl h0
   have hadd:∀ {c d:Int->Int},wW p (k+1) c->wW p (k+1) d->wW p (k+1) (fun i=>c i+d i):=by
    intro c d hc hd j hj h0;by_cases h2:c p.au[j].id=0
    · exact hd j hj (fun e=>h0 (by show _+_=(0:Int);rw [h2,e];rfl))
    · exact hc j hj h2
   have hneg:∀ {c},wW p (k+1) c->wW p (k+1) (fun i=>-c i):=fun hc j hj h0=>hc j hj (fun e=>h0 (by show -_=(0:Int);rw [e];rfl));unfold mrg at e;by_cases ex:kK p k x=kK p k p.au[k].fr<;>by_cases ey:kK p k y=kK p k p.au[k].fr
   ·obtain ⟨c,hc,hb⟩:=ih x hx y hy (ex.trans ey.symm);exact ⟨c,hup hc,hb⟩
   ·rw [if_pos ex,if_neg ey] at e;obtain ⟨c,hc,hb⟩:=ih x hx _ hm.1 ex;obtain ⟨d,hd,hb2⟩:=ih _ hm.2 y hy e;refine ⟨fun i=>(c i+zl p.au[k] i)+d i,hadd (hadd (hup hc) hs1) (hup hd),fun n=>?_⟩;rw [J8 p (fun i=>c i+zl p.au[k] i),J8,hb,hb2,h1];omega
   ·rw [if_neg ex,if_pos ey] at e;obtain ⟨c,hc,hb⟩:=ih x hx _ hm.2 e;obtain ⟨d,hd,hb2⟩:=ih _ hm.1 y hy ey.symm;refine ⟨fun i=>(c i + -zl p.au[k] i)+d i,hadd (hadd (hup hc) (hneg hs1)) (hup hd),fun n=>?_⟩;rw [J8 p (fun i=>c i + -zl p.au[k] i),J8,aeL,hb,hb2,h1];omega
   ·rw [if_neg ex,if_neg ey] at e;obtain ⟨c,hc,hb⟩:=ih x hx y hy e;exact ⟨c,hup hc,hb⟩
  ·rw [if_neg ht] at e;obtain ⟨c,hc,hb⟩:=ih x hx y hy e;exact ⟨c,hup hc,hb⟩
end
set_option linter.unusedSectionVars false
section
variable {p:Pl} (h:Valid p)
include h
theorem Valid.XE {c:List Int} (hc:c∈gJ p):∃ x∈dS p,c=jJ (kJ p) (dS p) x/\c.headD 0=x/\x∈c:=by
 obtain ⟨x,hx,e,-⟩:=h.jA.Gn c hc;have hf:=yY (fun x hx=>(h.y9 hx).1) (fun x hx y hy=>h.Gu hx hy) hx;refine ⟨x,hx,e,?_,by rw [e];exact WV hf.1⟩;rw [e];unfold jJ;obtain ⟨m,hm⟩:∃ m,kW (kJ p) (dS p) x=m+1:=⟨kW (kJ p) (dS p) x-1,by have:=hf.1;omega⟩;rw [hm];rfl
end
set_option linter.unusedSectionVars false
section
variable {p:Pl} (h:Valid p)
include h
end
section
variable {p:Pl} (h:Valid p)
include h
theorem Valid.alone (k:Nat) (hk:k<=p.au.length) {x:Int} (hx:x∈Bq p) (h0:kS p.au x=0):kK p k x=x/\∀ y∈Bq p,kK p k y=x->y=x:=by
 rw [aeK] at h0
 induction k with
 | zero =>
  refine ⟨h.J7 hx,fun y hy e=>?_⟩;rw [h.J7 hy] at e;exact e
 | succ k ih =>
  obtain ⟨i1,i2⟩:=ih (by omega);rw [(h.XD (k:=k) (by omega)).1];have ha:=List.getElem_mem (show k<p.au.length by omega);have hm:=h.Xz ha;have n1:kK p k p.au[k].fr≠x:=fun e=>(h0 _ ha).1 (i2 _ hm.1 e);have n2:kK p k p.au[k].dst≠x:=fun e=>(h0 _ ha).2 (i2 _ hm.2 e);split
  ·unfold mrg;refine ⟨by rw [i1,if_neg (fun e=>n1 e.symm)],fun y hy e=>?_⟩;split at e
   · exact absurd e n2
   · exact i2 y hy e
  · exact ⟨i1,i2⟩
end
end Go.Proofs.YtialfdomhoojiaaGreat
