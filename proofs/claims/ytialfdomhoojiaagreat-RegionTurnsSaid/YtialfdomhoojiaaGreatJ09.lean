import Derived.Test.YtialfdomhoojiaaGreatJ08
import Derived.Test.YtialfdomhoojiaaGreatJ01
import Derived.Test.YtialfdomhoojiaaGreatJ04
import Derived.Test.YtialfdomhoojiaaGreatJ07
set_option linter.unusedSimpArgs false
set_option linter.unusedVariables false
namespace Go.Proofs.YtialfdomhoojiaaGreat
open Go.RowKit
theorem Valid.short {p:Pl} (h:Valid p):Short p:=fun a ha=>by have:=h.y9 ha;omega
theorem Short.long {p:Pl} (h:Short p):FB p:=fun a ha=>by have:=h a ha;omega
theorem Valid.aeG {p:Pl} (h:Valid p) {d:Int} {a:Ar} (e:gV p d=some a):pathOf p (gJ d)=some (ak p a):=by
 obtain ⟨ha,hi⟩:=Zw e;rw [hi];exact h.sound.path ha
theorem amy (d:Int):max d (-d)=gJ d:=by unfold gJ;split<;>omega
theorem amA {p:Pl} {l:List Int} {k:Nat} (hk:k<l.length) {a:Ar} (e:gV p l[k]=some a):uZ p l (k+1)=uZ p l k+(if 0<l[k] then xX (ak p a) else -xX (ak p a)):=by
 have:l.getD k 0=l[k]:=by rw [List.getD_eq_getElem?_getD,List.getElem?_eq_getElem hk];rfl
 rw [uZ,this];unfold qI;rw [e]
theorem amB {p:Pl} {l:List Int} {k:Nat} (hk:k<l.length) (e:gV p l[k]=none):Eh p l=0:=by
 unfold Eh;rw [if_neg];rintro ⟨-,h⟩;have:=h _ (List.getElem_mem hk)
 rw [e] at this;cases this
theorem amC {p:Pl} {l:List Int} (hl:l.length<=512) (h:∀ j (hj:j<l.length),j<l.length->(gV p l[j]).isSome=true):Eh p l=uZ p l l.length:=by
 unfold Eh;rw [if_pos];refine ⟨hl,fun d hd=>?_⟩;obtain ⟨j,hj,rfl⟩:=List.mem_iff_getElem.1 hd;exact h j hj hj
set_option maxRecDepth 100000 in
set_option maxHeartbeats 8000000 in
theorem amD (v u:Value) (p:Pl) (l:List Int) (w:World) (h:dS w v p) (hu:Ints w u l) (hv:Valid p) (hw:∀ d∈l,eG d) :
  Calls Tryz.prog 120 #[v,u] w fun e w'=>e=.returned (.int .i64 (Eh p l))/\Below w.heap.size w w':=by
 have HA:=Lib.hid (fun d (hd:eG d) W (hW:Below w.heap.size w W)=>aeD v p d W (h.mono hW) hv.short.long hd);have HP:=Lib.hid (fun id W (hW:Below w.heap.size w W)=>OA v p id W (h.mono hW) hv.short);obtain ⟨_,_,_,al,rfl,hpa,⟨An,cn,rfl,-⟩,⟨⟨Aa,ca,rfl,-⟩,-⟩,⟨Af,cf,rfl,-⟩⟩:=h;obtain ⟨Al,cl,rfl,hl1,hl2,hR⟩:=hu;unfold maxLen at hl2;have HR:=Lib.hid hR;have HV:=Lib.hid hv;have HW:=Lib.hid hw;generalize al.length=na at *;generalize p.nodes.length=nn at *;generalize p.faces.length=nf at *;obtain ⟨q,hq⟩:∃ q,Eh p l=q:=⟨_,rfl⟩;rw [hq];have Hq:=Lib.hid hq;clear hpa hR hv hw hq;go_enter Tryz.func120,Tryz.ntmps120;by_cases hbig:512<l.length
 case pos =>
  have hbig':512<(l.length:Int):=by omega
  have hf:q=0:=by rw [<- Hq.out];unfold Eh;rw [if_neg (by omega)]
  subst hf;go_wp2_with fail;go_ret;exact ⟨rfl,bA (bR w) _⟩
 have hbig':¬ 512<(l.length:Int):=by omega
 go_wp2_with fail;obtain ⟨W0,hW⟩:∃ W0:World,W0=w.alloc (.cells #[.slice An nn cn,.slice Aa na ca,.slice Af nf cf] 26):=⟨_,rfl⟩;have HB0:=Lib.hid (show Below w.heap.size w W0 by rw [hW];exact bA (bR w) _);have bU:=Lib.hid (show aj W0 w.heap.size 26 #[.slice An nn cn,.slice Aa na ca,.slice Af nf cf] by rw [hW];exact aj.made rfl _ _);rw [<- hW];clear hW;go_loopw [4,18] (fun n i wr=>∃ k:Nat,k<=l.length/\i=.int .i64 k/\n=.int .i64 (uZ p l k)/\Below W0.heap.size W0 wr/\∀ j (hj:j<l.length),j<k->(gV p l[j]).isSome=true) (fun _ i _=>l.length-(intOf i).toNat)
 case atStart => exact ⟨0,Nat.zero_le _,rfl,rfl,bR W0,fun _ _ h=>by omega⟩
 case round =>
  obtain ⟨k,hk,rfl,rfl,hb,hno⟩:=hrel;have Hb:=Lib.hid hb;have Hno:=Lib.hid hno;have X2:=bU.out.keep hb;clear hb hno;obtain ⟨cu,cO,dH,dZ,-,-,-⟩:=X2.aY;by_cases hlt:k<l.length
  case neg =>
   have hkk:k=l.length:=by omega
   subst hkk;have hf:=amC (p:=p) (l:=l) (by omega) Hno.out;rw [Hq.out] at hf;have HF:=Lib.hid hf;clear hf;go_wp2_with fail;go_ret;exact ⟨fZ HF.out.symm,bT HB0.out Hb.out⟩
  obtain ⟨b,o,rfl,hlb,c0⟩:=(HR.out.mono (bT HB0.out Hb.out)).int hlt;have hwd:=HW.out _ (List.getElem_mem hlt);have sV:=Lib.hid (HA.out l[k] hwd)
  cases har:gV p l[k] with
  | none =>
   rw [har] at sV;have hf:=amB hlt har;rw [Hq.out] at hf;subst hf;clear har hwd;go_wp2_with fail;refine (sV.out _ (bT HB0.out Hb.out)).mono ?_;rintro e w1 ⟨A1,n1,c1,rfl,hb1⟩;have B1:=Lib.hid (bT Hb.out hb1);clear hb1;simp only [Option.isSome_none];go_wp2_with fail;go_ret;exact ⟨rfl,bT HB0.out (bA B1.out _)⟩
  | some a =>
  rw [har] at sV;have hst:=amA hlt har;have hpo:=HV.out.aeG har;have ha:=(Zw har).1;have hpl:=fM p a;have hvl:=HV.out.y9 ha;have LH:=Lib.hid (fun k hk=>HV.out.aeF ha k hk);have hub:=HV.out.amx l k;have hne:l[k]≠-9223372036854775808/\l[k]≠0:=by
   constructor
   · intro e;rw [e] at har;unfold gV at har;rw [if_pos (.inr rfl)] at har;cases har
   · intro e;rw [e] at har;unfold gV at har;rw [if_pos (.inl rfl)] at har;cases har
  have hbd:=aeC hwd;have sW:=Lib.hid (HP.out (max l[k] (-l[k])));have hpm:pathOf p (max l[k] (-l[k]))=some (ak p a):=by rw [amy];exact hpo
  rw [hpm] at sW;unfold YF at sW;simp only [Option.getD_some,Option.isSome_some,if_true] at sW;have eP:=Lib.hid hst;have vg:=Lib.hid (show (gV p l[k]).isSome=true by rw [har];rfl);have CX:=Lib.hid (all_succ (p:=fun d=>(gV p d).isSome=true) Hno.out hlt vg.out);have hk1:IntKind.i64.wrap (-l[k])=-l[k]:=IntWalk.i64_in _ (by omega);have IU:=Lib.hid (fun q (hq:q∈ak p a)=>HV.out.Zx ha hq);have AX:=Lib.hid (LH.out ((ak p a).length-1) (by omega));have Zy:=Lib.hid hne;have LJ:=Lib.hid (show k+1<=512 by omega);clear hst hpo har hwd hpm hne hbd;unfold xX at eP;generalize uZ p l k=n at *;generalize hP:ak p a=P at *;generalize l[k]=d at *;generalize a.via.length=vl at *;go_wp2_with fail;refine (sV.out _ (bT HB0.out Hb.out)).mono ?_;rintro e w1 ⟨A1,n1,c1,rfl,hb1⟩;replace X2:=X2.keep hb1;have B1:=Lib.hid (bT Hb.out hb1);clear hb1 cu cO dH dZ sV c0 hlb;simp only [Option.isSome_some,Option.getD_some]
  try clear cu
  try clear cO
  try clear dH
  try clear dZ
  obtain ⟨cu,cO,dH,dZ,-,-,-⟩:=X2.aY;go_wp2_with fail;refine (sW.out _ (bT HB0.out (bA B1.out _))).mono ?_;rintro e w2 ⟨A2,c2,rfl,hb2,ho2⟩;have B2:=Lib.hid (bT (bA B1.out _) hb2);obtain ⟨Aq,cq,he,hq1,hq2,I8⟩:=ho2.sl;injection he with e1 e2 e3;subst e1 e3;clear e2;unfold maxLen at hq2;have HRP:=Lib.hid I8;clear hb2 ho2 I8 sW X2 cu cO dH dZ;obtain ⟨N,hN⟩:∃ N,P.length=N+1:=⟨P.length-1,by omega⟩;have HN:=Lib.hid hN;have hNs:N<=65:=by omega
  rw [hN] at AX eP;simp only [Nat.add_sub_cancel] at AX eP;have k2:IntKind.i64.wrap (N:Int)=(N:Int):=IntWalk.i64_in _ (by omega);rw [hN] at hq1 ⊢;clear hN hpl hvl;go_wp2_with fail;obtain ⟨W2,rfl⟩:∃ W2:World,W2=w2:=⟨_,rfl⟩;go_loopw [11,44] (fun s i wx=>∃ j:Nat,j<=N/\i=.int .i64 j/\s=.int .i64 (oK P j)/\Below W2.heap.size W2 wx) (fun _ i _=>N-(intOf i).toNat)
  case atStart => exact ⟨0,Nat.zero_le _,rfl,rfl,bR W2⟩
  case round =>
   obtain ⟨j,hj,rfl,rfl,hbx⟩:=hrel;have jo:=Lib.hid hbx;clear hbx;by_cases hjl:j<N
   case pos =>
    have hP1:j<P.length:=by have:=HN.out;omega
    have hP2:j+1<P.length:=by have:=HN.out;omega
    obtain ⟨b1,o1,hA1,aeH,c0,c1'⟩:=(HRP.out.mono jo.out).pt hP1;subst hA1;obtain ⟨b2,o2,hA2,-,d0,d1⟩:=(HRP.out.mono jo.out).pt hP2;simp only [Option.some.injEq,Addr.mk.injEq,and_true] at hA2;obtain ⟨rfl,rfl⟩:=hA2;have g1:=IU.out _ (List.getElem_mem hP1);have g2:=IU.out _ (List.getElem_mem hP2);have x1:=Uh g1.1 g2.2;have x2:=Uh g2.1 g1.2;have tb:=LH.out j (by have:=HN.out;omega);have tb2:=LH.out (j+1) (by have:=HN.out;omega);have hstep:oK P (j+1)=oK P j+(P[j].x*P[j+1].y-P[j+1].x*P[j].y):=by
     rw [oK];unfold sU;simp only [List.getD_eq_getElem?_getD,List.getElem?_eq_getElem hP1,List.getElem?_eq_getElem hP2,Option.getD_some]
    rw [hstep] at tb2;have amE:=Lib.hid hstep;clear hstep g1 g2;generalize P[j]=p1 at *;generalize P[j+1]=p2 at *;generalize hT:oK P j=T at *;have q1:0<=(j:Int):=by omega
    have q2:(j:Int)<(N:Int)+1:=by omega
    have q3:0<=(j:Int)+1:=by omega
    have q4:(j:Int)+1<(N:Int)+1:=by omega
    have q5:((j:Int)+1).toNat=j+1:=by omega
    have m0:IntKind.i64.wrap ((j:Int)+1)=(j:Int)+1:=IntWalk.i64_in _ (by omega);have m1:IntKind.i64.wrap (p1.x*p2.y)=p1.x*p2.y:=IntWalk.i64_in _ (by omega);have m2:IntKind.i64.wrap (p2.x*p1.y)=p2.x*p1.y:=IntWalk.i64_in _ (by omega);have m3:IntKind.i64.wrap (p1.x*p2.y-p2.x*p1.y)=p1.x*p2.y-p2.x*p1.y:=IntWalk.i64_in _ (by omega);have m4:IntKind.i64.wrap (T+(p1.x*p2.y-p2.x*p1.y))=T+(p1.x*p2.y-p2.x*p1.y):=IntWalk.i64_in _ (by omega);clear x1 x2 tb tb2 hT hub;go_upto_region 16 with fail;refine cZ (Since wr) (.run 28 0 0 (.done)) (by kernel_rfl) (bD (bR _)) (by kernel_rfl) (by kernel_rfl) (Nat.le_of_ble_eq_true (by kernel_rfl)) ?_;intro dn QR au aC hS
    iterate 28
     apply bn;exact au;exact rfl;exact hS;exact rfl
     · intro _ hqc;go_simp;try rfl
     try simp only [pu]
    refine bQ ?_;refine aC.down _ _ ?_;have hB:Below wr.heap.size wr wr.drew:=hS;clear hS aC au;have Bx:=Lib.hid (bT jo.out hB);clear hB m0 m1 m2 m3 m4;go_wp2_with fail;go_roundw
    case rel => exact ⟨j+1,by omega,by go_num,by rw [amE.out],Bx.out⟩
    case measure => simp [intOf];omega
   case neg =>
   have hjj:j=N:=by omega
   subst hjj;have htl:=AX.out;have hsz:=LJ.out;have Bx:=Lib.hid (bT B2.out jo.out);generalize hT:oK P j=T at *;clear hT;by_cases hneg:d<0
   ·have hst:=eP.out;rw [if_neg (by omega)] at hst;have Zz:=Lib.hid hst;have m1:IntKind.i64.wrap (-T)=-T:=IntWalk.i64_in _ (by omega);have m2:IntKind.i64.wrap (n + -T)=n + -T:=IntWalk.i64_in _ (by omega);clear hst htl hub hsz;go_wp2_with fail;go_roundw
    case rel => exact ⟨k+1,by omega,by go_num,by rw [Zz.out],Bx.out,CX.out⟩
    case measure => simp [intOf];omega
   ·have hst:=eP.out;rw [if_pos (by have:=Zy.out.2;omega)] at hst;have Zz:=Lib.hid hst;have m2:IntKind.i64.wrap (n+T)=n+T:=IntWalk.i64_in _ (by omega);clear hst htl hub hsz;go_wp2_with fail;go_roundw
    case rel => exact ⟨k+1,by omega,by go_num,by rw [Zz.out],Bx.out,CX.out⟩
    case measure => simp [intOf];omega
def Ei (F:Int->Int) (K:Nat):Prop:=∀ x,F (pw F x K)=pw F x K
theorem Pm {F:Int->Int} {x:Int} {K:Nat} (h:F (pw F x K)=pw F x K) (n:Nat):pw F x (K+n)=pw F x K:=by
 induction n with
 | zero=>rfl
 | succ n ih=>show F (pw F x (K+n))=_;rw [ih,h]
theorem aeI {F:Int->Int} {x:Int} {i j:Nat} (hi:F (pw F x i)=pw F x i) (hj:F (pw F x j)=pw F x j):pw F x i=pw F x j:=by
 rcases Nat.le_total i j with h | h
 ·have:=Pm hi (j-i)
  rw [show i+(j-i)=j by omega] at this;exact this.symm
 ·have:=Pm hj (i-j)
  rw [show j+(i-j)=i by omega] at this;exact this
theorem Ei.more {F:Int->Int} {K M:Nat} (h:Ei F K) (hm:K<=M):Ei F M:=by
 intro x;have:=Pm (h x) (M-K)
 rw [show K+(M-K)=M by omega] at this;rw [this];exact h x
theorem Ei.eq {F:Int->Int} {K M:Nat} (h:Ei F K) (hm:K<=M) (x:Int):pw F x M=pw F x K:=aeI (h.more hm x) (h x)
def nU (F:Int->Int) (a b:Int) (i:Int):Int:=if i=a then b else F i
theorem aeJ {F:Int->Int} {a b x:Int} (n:Nat) (h:∀ j,j<n->pw F x j≠a):pw (nU F a b) x n=pw F x n:=by
 induction n with
 | zero=>rfl
 | succ n ih =>
  show nU F a b (pw (nU F a b) x n)=F (pw F x n)
  rw [ih (fun j hj=>h j (by omega))];unfold nU;rw [if_neg (h n (by omega))]
theorem aeK {P:Nat->Prop} [DecidablePred P] : ∀ n,P n->∃ j,j<=n/\P j/\∀ i,i<j->¬ P i
 | 0,h=>⟨0,Nat.le_refl _,h,fun i hi=>by omega⟩
 | n+1,h=>by
  by_cases h2:∃ m,m<=n/\P m
  ·obtain ⟨m,hm,hp⟩:=h2;obtain ⟨j,h1,h3,h4⟩:=aeK m hp;exact ⟨j,by omega,h3,h4⟩
  · exact ⟨n+1,Nat.le_refl _,h,fun i hi hp=>h2 ⟨i,by omega,hp⟩⟩
termination_by n=>n
decreasing_by omega
theorem aeL {F:Int->Int} {K:Nat} (h:Ei F K) {a b:Int} (ha:F a=a) (hb:F b=b) (hne:a≠b) :
  Ei (nU F a b) (K+1)/\∀ x,pw (nU F a b) x (K+1)=if pw F x K=a then b else pw F x K:=by
 have hfb:nU F a b b=b:=by unfold nU;rw [if_neg (fun e=>hne e.symm),hb]
 have key:∀ x,pw (nU F a b) x (K+1)=if pw F x K=a then b else pw F x K:=by
  intro x;by_cases hx:pw F x K=a
  ·rw [if_pos hx];obtain ⟨j,h1,h2,h3⟩:=aeK (P:=fun j=>pw F x j=a) K hx;have e1:pw (nU F a b) x j=a:=by rw [aeJ j h3];exact h2
   have e2:pw (nU F a b) x (j+1)=b:=by
    show nU F a b (pw (nU F a b) x j)=b
    rw [e1];unfold nU;rw [if_pos rfl]
   have e3:nU F a b (pw (nU F a b) x (j+1))=pw (nU F a b) x (j+1):=by rw [e2];exact hfb
   have:=Pm e3 (K-j)
   rw [show j+1+(K-j)=K+1 by omega] at this;rw [this,e2]
  ·rw [if_neg hx];have hn:∀ j,j<K+1->pw F x j≠a:=by
    intro j hj e;have e2:F (pw F x j)=pw F x j:=by rw [e];exact ha
    exact hx ((aeI (h x) e2).trans e)
   rw [aeJ (K+1) hn];exact Pm (h x) 1
 refine ⟨fun x=>?_,key⟩;rw [key x];split
 · exact hfb
 ·rename_i hx;unfold nU;rw [if_neg hx];exact h x
def xY (l:List Nd) (i:Int):Int:=if i∈l.map (·.id) then i else 0
theorem amF (l:List Nd):Ei (xY l) 1:=by
 intro x
 show xY l (xY l x)=xY l x
 unfold xY;by_cases h:x∈l.map (·.id)
 · rw [if_pos h,if_pos h]
 · rw [if_neg h];split<;>rfl
def Pn (K:Nat) (s:(Int->Int)×Int) (a:Ar):(Int->Int)×Int :=
 if pw s.1 a.fr K=pw s.1 a.dst K then s else (nU s.1 (pw s.1 a.fr K) (pw s.1 a.dst K),s.2-1)
def xZ (p:Pl) (k:Nat):(Int->Int)×Int:=(p.ah.take k).foldl (Pn (p.ah.length+1)) (xY p.nodes,(p.nodes.length:Int))
theorem ZA (p:Pl) (k:Nat) (hk:k<p.ah.length):xZ p (k+1)=Pn (p.ah.length+1) (xZ p k) p.ah[k]:=by
 unfold xZ;rw [List.take_succ_eq_append_getElem hk,List.foldl_append];rfl
structure amG (p:Pl) (k:Nat) (s:(Int->Int)×Int):Prop where
 flat:Ei s.1 (k+1)
 bd:∀ x,-1073741824<=s.1 x/\s.1 x<=1073741824
 lo:(p.nodes.length:Int)-k<=s.2
 hi:s.2<=p.nodes.length
theorem amH {p:Pl} (h:Valid p) (k:Nat) (hk:k<=p.ah.length):amG p k (xZ p k):=by
 induction k with
 | zero =>
  refine ⟨amF _,fun x=>?_,by simp [xZ],by simp [xZ]⟩
  show -1073741824<=xY p.nodes x/\xY p.nodes x<=1073741824
  unfold xY;split
  ·rename_i hm;obtain ⟨n,hn,rfl⟩:=List.mem_map.1 hm;have:=h.amg hn
   omega
  · omega
 | succ k ih =>
  obtain ⟨h1,h2,h3,h4⟩:=ih (by omega);rw [ZA p k (by omega)];generalize xZ p k=s at *;unfold Pn;split
  · exact ⟨h1.more (by omega),h2,by omega,h4⟩
  ·rename_i hne;have e1:∀ x,s.1 (pw s.1 x (p.ah.length+1))=pw s.1 x (p.ah.length+1):=h1.more (by omega);refine ⟨(aeL h1 (e1 _) (e1 _) hne).1,fun x=>?_,by show _<=s.2-1;omega,by show s.2-1<=_;omega⟩
   show -1073741824<=nU _ _ _ x/\nU _ _ _ x<=1073741824
   unfold nU;split
   · rw [<- e1];exact h2 _
   · exact h2 _
def hY (p:Pt):Int:=8388608*p.y+p.x
theorem mg {a b:Pt} (ha:aU a=true) (hb:aU b=true) (h:hY a=hY b):a=b:=by
 rw [xJ] at ha hb;unfold hY at h;rw [Pt.ext_iff'];omega
instance (ux uy vx vy:Int):Decidable (su ux uy vx vy):=by unfold su kK;infer_instance
instance (o a b:Pt):Decidable (eH o a b):=by unfold eH;infer_instance
def o8 (a b v:Pt):Int:=if hY a<hY v/\hY v<hY b/\0<tw a b v then 1 else if hY b<hY v/\hY v<hY a/\0<tw b a v then -1 else 0
theorem ZC (a b v:Pt):o8 b a v=-o8 a b v:=by
 unfold o8;by_cases h1:hY a<hY v/\hY v<hY b/\0<tw a b v
 · rw [if_pos h1,if_neg (by omega),if_pos h1]
 ·rw [if_neg h1];by_cases h2:hY b<hY v/\hY v<hY a/\0<tw b a v
  · rw [if_pos h2,if_neg h1,if_pos h2];rfl
  · rw [if_neg h2,if_neg h1,if_neg h2];rfl
def Po (s t v:Pt):Int:=if hY s<hY v/\hY v<hY t/\tw s t v<0 then 1 else 0
theorem aeM (a b s t:Pt):tw a b s*(hY t-hY b)+tw a b t*(hY b-hY s)=-((hY b-hY a)*tw s t b):=by unfold tw hY;grind
theorem aeN (a b s t:Pt):tw a b s*(hY t-hY a)+tw a b t*(hY a-hY s)=-((hY b-hY a)*tw s t a):=by unfold tw hY;grind
theorem Pq (a b s t:Pt):tw a b t-tw a b s=tw s t a-tw s t b:=by unfold tw;grind
theorem ZE (a b s t:Pt):aF a b s t=tw a b t-tw a b s:=by unfold tw aF;grind
theorem amI (a s t:Pt):aF a s s t=tw s t a:=by unfold tw aF;grind
theorem amJ (a b s:Pt):aF a s a b=-tw a b s:=by unfold tw aF;grind
theorem aeO (a b c:Pt):tw a c b=-tw a b c:=by unfold tw;grind
theorem CZ (a b:Pt):tw a b a=0:=by unfold tw;grind
theorem C9 (a b:Pt):tw a b b=0:=by unfold tw;grind
theorem aeP {a b s t:Pt} (hab:a≠b) (h:pV a b s t=0) (hd:tw a b t-tw a b s≠0) :
  ¬ (tw a b s<=0/\0<=tw a b t/\tw s t b<=0/\0<=tw s t a)/\¬ (0<=tw a b s/\tw a b t<=0/\0<=tw s t b/\tw s t a<=0):=by
 have e:=Pq a b s t;unfold pV at h;rw [if_neg (fun h=>hab h.1),amI a s t,amJ a b s,ZE a b s t,if_neg hd] at h;split at h
 ·split at h
  · cases h
  · omega
 ·split at h
  · cases h
  · omega
def oL (a b s t:Pt):Prop:=tw a b t-tw a b s≠0->¬ (tw a b s<=0/\0<=tw a b t/\tw s t b<=0/\0<=tw s t a)/\¬ (0<=tw a b s/\tw a b t<=0/\0<=tw s t b/\tw s t a<=0)
theorem oL.of {a b s t:Pt} (hab:a≠b) (h:pV a b s t=0):oL a b s t:=aeP hab h
theorem oL.comm {a b s t:Pt} (h:oL a b s t):oL s t a b:=by
 intro hd;have e:=Pq a b s t;have:=h (by omega)
 omega
theorem oL.flip {a b s t:Pt} (h:oL a b s t):oL b a s t:=by
 intro hd;have e1:tw b a s=-tw a b s:=by unfold tw;grind
 have e2:tw b a t=-tw a b t:=by unfold tw;grind
 have:=h (by omega)
 omega
theorem pq (x:Int) {y z:Int} (h:y<z):(0<x*z-x*y↔0<x)/\(x*z-x*y<0↔x<0):=by
 rw [<- Int.mul_sub];have hp:0<z-y:=by omega
 rcases Int.lt_trichotomy x 0 with h1 | h1 | h1
 · have:=Int.mul_neg_of_neg_of_pos h1 hp;omega
 · subst h1;simp
 · have:=Int.mul_pos h1 hp;omega
theorem aeQ {a b s t:Pt} (hab:hY a<hY b) (hst:hY s<hY t) (h:oL a b s t) :
  (hY a<hY s->hY s<hY b->hY b<hY t->(0<tw a b s↔tw s t b<0)) /\
  (hY a<hY s->hY t<hY b->(0<tw a b s↔0<tw a b t)) /\
  (hY s<hY a->hY b<hY t->(tw s t a<0↔tw s t b<0)) /\
  (hY s<hY a->hY a<hY t->hY t<hY b->(0<tw a b t↔tw s t a<0)):=by
 have e:=Pq a b s t;have i1:=aeM a b s t;have i2:=aeN a b s t;have j1:=aeM s t a b;have j2:=aeN s t a b;have nm:=h;unfold oL at nm;clear h;generalize tw a b s=u1 at *;generalize tw a b t=u2 at *;generalize tw s t a=u3 at *;generalize tw s t b=u4 at *;generalize hY a=A at *;generalize hY b=B at *;generalize hY s=S at *;generalize hY t=T at *;rw [Int.mul_sub,Int.mul_sub,Int.mul_comm (B-A),Int.mul_sub] at i1 i2;rw [Int.mul_sub,Int.mul_sub,Int.mul_comm (T-S),Int.mul_sub] at j1 j2;have g1:=pq u1 hst;have g2:=pq u2 hst;have g3:=pq u3 hab;have g4:=pq u4 hab;refine ⟨fun h1 h2 h3=>?_,fun h1 h2=>?_,fun h1 h2=>?_,fun h1 h2 h3=>?_⟩
 ·have f1:=pq u1 h3;have f2:=pq u2 h2;have f3:=pq u1 (show A<T by omega);have f4:=pq u2 h1;by_cases hd:u2-u1=0
  ·have:u1=u2:=by omega
   subst this;omega
  ·have:=nm hd
   omega
 ·have f1:=pq u1 h2;have f2:=pq u2 (show S<B by omega);have f3:=pq u1 (show A<T by omega);have f4:=pq u2 h1;by_cases hd:u2-u1=0
  · omega
  ·have:=nm hd
   omega
 ·have f1:=pq u3 h2;have f2:=pq u4 (show A<T by omega);have f3:=pq u3 (show S<B by omega);have f4:=pq u4 h1;by_cases hd:u2-u1=0
  · omega
  ·have:=nm hd
   omega
 ·have f1:=pq u1 h3;have f2:=pq u2 (show S<B by omega);have f3:=pq u1 h2;have f4:=pq u2 h1;by_cases hd:u2-u1=0
  ·have:u1=u2:=by omega
   subst this;have f5:=pq u1 (show S<T by omega);omega
  ·have:=nm hd
   omega
theorem aeR {o p:Pt} (ho:aU o=true) (hp:aU p=true):kK (p.x-o.x) (p.y-o.y)↔hY p<hY o:=by
 rw [xJ] at ho hp;unfold kK hY;omega
theorem LK {o a b:Pt} (ho:aU o=true) (ha:aU a=true) (hb:aU b=true):eH o a b↔(¬ hY a<hY o/\hY b<hY o)\/((hY a<hY o↔hY b<hY o)/\0<tw o a b):=by
 unfold eH su;rw [aeR ho ha,aeR ho hb];rfl
theorem aeS {a b s t:Pt} (na:aU a=true) (nb:aU b=true) (ns:aU s=true) (nt:aU t=true) (hab:hY a<hY b) (hst:hY s<hY t)
  (hno:a≠s->a≠t->b≠s->b≠t->oL a b s t) :
  o8 a b s+(if a=s/\eH s b t then 1 else 0)-(if b=s/\eH s a t then 1 else 0)-(o8 a b t-(if a=t/\eH t s b then 1 else 0)+(if b=t/\eH t s a then 1 else 0))=Po s t b-Po s t a:=by
 have hne:a≠b:=fun e=>by rw [e] at hab;omega
 have d1:=LK ns nb nt;have d2:=LK ns na nt;have d3:=LK nt ns nb;have d4:=LK nt ns na;have q:∀ {u v:Pt},aU u=true->aU v=true->(u=v↔hY u=hY v):=fun hu hv=>⟨fun e=>by rw [e],mg hu hv⟩;have e1:tw s b t=-tw s t b:=aeO s t b;have e2:tw t s a=-tw s t a:=by unfold tw;grind
 have f1:hY a=hY s->tw a b s=0/\tw s t a=0/\tw a b t=-tw s t b:=fun h=>by
  have:=mg na ns h
  subst this;exact ⟨CZ a b,CZ a t,e1⟩
 have f2:hY b=hY t->tw a b t=0/\tw s t b=0/\tw a b s=-tw s t a:=fun h=>by
  have:=mg nb nt h
  subst this;exact ⟨C9 a b,C9 s b,by unfold tw;grind⟩
 have f3:hY a≠hY s->hY a≠hY t->hY b≠hY s->hY b≠hY t->_:=fun h1 h2 h3 h4=>aeQ (s:=s) (t:=t) hab hst (hno (fun e=>h1 (by rw [e])) (fun e=>h2 (by rw [e])) (fun e=>h3 (by rw [e])) (fun e=>h4 (by rw [e])));have k1:(a=s/\eH s b t)↔(hY a=hY s/\tw s t b<0):=by rw [d1,q na ns,e1];constructor<;>(rintro ⟨h1,h2⟩;exact ⟨h1,by omega⟩)
 have k2:¬ (b=s/\eH s a t):=by rw [d2,q nb ns];rintro ⟨h1,h2⟩;omega
 have k3:¬ (a=t/\eH t s b):=by rw [d3,q na nt];rintro ⟨h1,h2⟩;omega
 have k4:(b=t/\eH t s a)↔(hY b=hY t/\tw s t a<0):=by rw [d4,q nb nt,e2];constructor<;>(rintro ⟨h1,h2⟩;exact ⟨h1,by omega⟩)
 have m1:o8 a b s=if hY a<hY s/\hY s<hY b/\0<tw a b s then 1 else 0:=by unfold o8;rw [if_neg (show ¬ (hY b<hY s/\hY s<hY a/\0<tw b a s) by omega)]
 have m2:o8 a b t=if hY a<hY t/\hY t<hY b/\0<tw a b t then 1 else 0:=by unfold o8;rw [if_neg (show ¬ (hY b<hY t/\hY t<hY a/\0<tw b a t) by omega)]
 rw [m1,m2,if_neg k2,if_neg k3];unfold Po;simp only [k1,k4];clear hno d1 d2 d3 d4 e1 e2 q na nb ns nt hne k1 k2 k3 k4 m1 m2;generalize tw a b s=u1 at *;generalize tw a b t=u2 at *;generalize tw s t a=u3 at *;generalize tw s t b=u4 at *;generalize hY a=A at *;generalize hY b=B at *;generalize hY s=S at *;generalize hY t=T at *;rcases Int.lt_trichotomy A S with h1 | h1 | h1
 ·clear f1;rcases Int.lt_trichotomy B S with h3 | h3 | h3
  ·clear f2 f3;rw [if_neg (by omega),if_neg (by omega),if_neg (by omega),if_neg (by omega),if_neg (by omega),if_neg (by omega)];rfl
  ·clear f2 f3;rw [if_neg (by omega),if_neg (by omega),if_neg (by omega),if_neg (by omega),if_neg (by omega),if_neg (by omega)];rfl
  ·rcases Int.lt_trichotomy B T with h2 | h2 | h2
   ·have f3:=(f3 (by omega) (by omega) (by omega) (by omega)).1 h1 h3 h2;clear f2;simp only [h1,h3,h2,true_and,f3,show ¬ A=S by omega,show ¬ T<B by omega,show ¬ B=T by omega,show ¬ S<A by omega,false_and,and_false,if_false];omega
   ·obtain ⟨-,-,f2⟩:=f2 h2;clear f3;simp only [h1,h3,h2,true_and,show ¬ A=S by omega,show ¬ S<A by omega,show ¬ T<T by omega,show A<T by omega,hst,false_and,and_false,if_false];split<;>split<;>omega
   ·have f3:=(f3 (by omega) (by omega) (by omega) (by omega)).2.1 h1 h2;clear f2;simp only [h1,h3,h2,true_and,f3,show ¬ A=S by omega,show ¬ S<A by omega,show ¬ B<T by omega,show ¬ B=T by omega,show A<T by omega,false_and,and_false,if_false];omega
 ·obtain ⟨f1a,f1b,f1⟩:=f1 h1;clear f3;subst h1;rcases Int.lt_trichotomy B T with h2 | h2 | h2
  ·clear f2;simp only [hab,h2,true_and,show ¬ A<A by omega,show ¬ B=T by omega,show ¬ T<B by omega,false_and,and_false,if_false];omega
  ·obtain ⟨f2a,f2b,f2⟩:=f2 h2;subst h2;simp only [hab,true_and,show ¬ A<A by omega,show ¬ B<B by omega,false_and,and_false,if_false];split<;>split<;>omega
  ·clear f2;simp only [hab,hst,h2,true_and,show ¬ A<A by omega,show ¬ B=T by omega,show ¬ B<T by omega,false_and,and_false,if_false];split<;>split<;>omega
 ·clear f1;rcases Int.lt_trichotomy A T with h3 | h3 | h3
  ·rcases Int.lt_trichotomy B T with h2 | h2 | h2
   ·have f3:=(f3 (by omega) (by omega) (by omega) (by omega)).2.2.1 h1 h2;clear f2;simp only [h1,h2,h3,true_and,f3,show ¬ A<S by omega,show ¬ A=S by omega,show ¬ T<B by omega,show ¬ B=T by omega,show S<B by omega,false_and,and_false,if_false];omega
   ·clear f2 f3;subst h2;simp only [h1,h3,hst,true_and,show ¬ A<S by omega,show ¬ A=S by omega,show ¬ B<B by omega,false_and,and_false,if_false];omega
   ·have f3:=(f3 (by omega) (by omega) (by omega) (by omega)).2.2.2 h1 h3 h2;clear f2;simp only [h1,h2,h3,true_and,f3,show ¬ A<S by omega,show ¬ A=S by omega,show ¬ B<T by omega,show ¬ B=T by omega,false_and,and_false,if_false];omega
  ·clear f2 f3;rw [if_neg (by omega),if_neg (by omega),if_neg (by omega),if_neg (by omega),if_neg (by omega),if_neg (by omega)];rfl
  ·clear f2 f3;rw [if_neg (by omega),if_neg (by omega),if_neg (by omega),if_neg (by omega),if_neg (by omega),if_neg (by omega)];rfl
section
variable {α β:Type}
theorem iC (l:List α) (f g:α->Int) (h:∀ x∈l,f x=g x):(l.map f).sum=(l.map g).sum:=by rw [List.map_congr_left h]
theorem wE (l:List α) (f:α->Int) (h:∀ x∈l,f x=0):(l.map f).sum=0:=by
 induction l with
 | nil=>rfl
 | cons a l ih=>rw [List.map_cons,List.sum_cons,h a (by simp),ih (fun x hx=>h x (by simp [hx]))];rfl
theorem sZ (l:List α) (f g:α->Int):(l.map fun x=>f x+g x).sum=(l.map f).sum+(l.map g).sum:=by
 induction l with
 | nil=>rfl
 | cons a l ih=>simp only [List.map_cons,List.sum_cons,ih];omega
theorem vk (l:List α) (f:α->Int):(l.map fun x=>-f x).sum=-(l.map f).sum:=by
 induction l with
 | nil=>rfl
 | cons a l ih=>simp only [List.map_cons,List.sum_cons,ih];omega
theorem Dc (l:List α) (c:Int) (f:α->Int):(l.map fun x=>c*f x).sum=c*(l.map f).sum:=by
 induction l with
 | nil=>simp
 | cons a l ih=>simp only [List.map_cons,List.sum_cons,ih,Int.mul_add]
theorem ZF (l:List α) (m:List β) (f:α->β->Int):(l.map fun x=>(m.map fun y=>f x y).sum).sum=(m.map fun y=>(l.map fun x=>f x y).sum).sum:=by
 induction l with
 | nil=>simp only [List.map_nil,List.sum_nil];rw [wE m _ (fun _ _=>rfl)]
 | cons a l ih=>simp only [List.map_cons,List.sum_cons,ih];rw [sZ]
theorem Pv (n j:Nat) (f:Nat->Int) (h:∀ k,k<n->k≠j->f k=0):((List.range n).map f).sum=if j<n then f j else 0:=by
 induction n with
 | zero=>rfl
 | succ n ih =>
  rw [List.range_succ,List.map_append,List.sum_append,ih (fun k hk=>h k (by omega))];simp only [List.map_cons,List.map_nil,List.sum_cons,List.sum_nil,Int.add_zero];by_cases hj:j=n
  · subst hj;rw [if_neg (by omega),if_pos (by omega)];omega
  ·rw [h n (by omega) (fun e=>hj e.symm)];by_cases h2:j<n
   · rw [if_pos h2,if_pos (by omega)];omega
   · rw [if_neg h2,if_neg (by omega)];rfl
theorem sumT (n:Nat) (R:Nat->Int):((List.range n).map fun k=>R (k+1)-R k).sum=R n-R 0:=by
 induction n with
 | zero=>simp
 | succ n ih =>
  rw [List.range_succ,List.map_append,List.sum_append,ih];simp only [List.map_cons,List.map_nil,List.sum_cons,List.sum_nil];omega
theorem LM (l:List α) (k:α->Int) (hk:(l.map k).Pairwise (· < ·)) (r:Int->Int) (x:Int) (hx:∃ y∈l,k y=x):(l.map fun y=>if x=k y then r (k y) else 0).sum=r x:=by
 induction l with
 | nil=>obtain ⟨y,hy,-⟩:=hx;cases hy
 | cons a l ih =>
  rw [List.map_cons,List.pairwise_cons] at hk;rw [List.map_cons,List.sum_cons];by_cases e:x=k a
  · rw [if_pos e,wE l _ (fun y hy=>if_neg (fun e2=>by have:=hk.1 (k y) (List.mem_map_of_mem hy);omega)),e];omega
  ·rw [if_neg e,ih hk.2 (by
    obtain ⟨y,hy,e2⟩:=hx;rcases List.mem_cons.1 hy with rfl | hy
    · exact absurd e2.symm e
    · exact ⟨y,hy,e2⟩)]
   omega
end
def jY (f:Pt->Pt->Int) (l:List Pt):Int:=((List.range (l.length-1)).map fun k=>f (l.getD k aB) (l.getD (k+1) aB)).sum
def bZ (p:Pl) (z:Int->Int) (f:Pt->Pt->Int):Int:=(p.ah.map fun a=>z a.id*jY f (ak p a)).sum
theorem I9 (p:Pl) (z:Int->Int) (f g:Pt->Pt->Int):bZ p z (fun a b=>f a b+g a b)=bZ p z f+bZ p z g:=by
 unfold bZ jY;rw [<- sZ];exact iC _ _ _ fun a _=>by rw [sZ,Int.mul_add]
theorem aeT (p:Pl) (z:Int->Int) (f:Pt->Pt->Int):bZ p z (fun a b=>-f a b)=-bZ p z f:=by
 unfold bZ jY;rw [<- vk];exact iC _ _ _ fun a _=>by rw [vk,Int.mul_neg]
theorem aeU (p:Pl) (z:Int->Int) (f g:Pt->Pt->Int):bZ p z (fun a b=>f a b-g a b)=bZ p z f-bZ p z g:=by
 have:=I9 p z f (fun a b=>-g a b)
 rw [aeT] at this;simp only [<- Int.sub_eq_add_neg] at this;exact this
theorem Px {p:Pl} {z:Int->Int} {f g:Pt->Pt->Int} (h:∀ a∈p.ah,∀ k,k+1<(ak p a).length->f ((ak p a).getD k aB) ((ak p a).getD (k+1) aB)=g ((ak p a).getD k aB) ((ak p a).getD (k+1) aB)):bZ p z f=bZ p z g:=by
 unfold bZ jY;refine iC _ _ _ fun a ha=>?_;congr 1;exact iC _ _ _ fun k hk=>h a ha k (by have:=List.mem_range.1 hk;omega)
def iy (p:Pl) (z:Int->Int):Prop:=∀ n∈p.nodes,(p.ah.map fun a=>z a.id*((if a.dst=n.id then 1 else 0)-(if a.fr=n.id then 1 else 0))).sum=0
theorem zf (p:Pl) (a:Ar):(ak p a).getD ((ak p a).length-1) aB=nodeAt p a.dst:=by
 rw [fM];unfold ak
 show (nodeAt p a.fr::(a.via++[nodeAt p a.dst])).getD (a.via.length+1) aB=_
 rw [List.getD_cons_succ,List.getD_eq_getElem?_getD,List.getElem?_append_right (by omega)];simp
section
variable {p:Pl} (h:Valid p)
include h
theorem Valid.aeV {z:Int->Int} (hz:iy p z) (r:Int->Int):(p.ah.map fun a=>z a.id*(r a.dst-r a.fr)).sum=0:=by
 have e:(p.ah.map fun a=>z a.id*(r a.dst-r a.fr)).sum=(p.ah.map fun a=>(p.nodes.map fun n=>r n.id*(z a.id*((if a.dst=n.id then 1 else 0)-(if a.fr=n.id then 1 else 0)))).sum).sum:=by
  refine iC _ _ _ fun a ha=>?_;obtain ⟨n1,h1,e1,-⟩:=h.sound.AU ha;obtain ⟨n2,h2,e2,-⟩:=h.sound.CS ha;have s1:=LM p.nodes (·.id) h.sound.nodes r a.fr ⟨n1,h1,e1⟩;have s2:=LM p.nodes (·.id) h.sound.nodes r a.dst ⟨n2,h2,e2⟩;rw [<- s1,<- s2,Int.sub_eq_add_neg,<- vk,<- sZ,<- Dc];refine iC _ _ _ fun n _=>?_;by_cases c1:a.dst=n.id<;>by_cases c2:a.fr=n.id<;>simp only [c1,c2,if_true,if_false]<;>grind
 rw [e,ZF];refine wE _ _ fun n hn=>?_;rw [Dc,hz n hn,Int.mul_zero]
theorem Valid.LP {z:Int->Int} (hz:iy p z) (R:Pt->Int):bZ p z (fun a b=>R b-R a)=0:=by
 rw [<- h.aeV hz (fun i=>R (nodeAt p i))];unfold bZ jY;refine iC _ _ _ fun a _=>?_;rw [sumT ((ak p a).length-1) (fun k=>R ((ak p a).getD k aB)),zf,yZ]
theorem Valid.ZG {a b:Ar} (ha:a∈p.ah) (hb:b∈p.ah) {k m:Nat} (hk:k+1<(ak p a).length) (hm:m+1<(ak p b).length)
  (h1:(ak p a).getD k aB≠(ak p b).getD m aB) (h2:(ak p a).getD k aB≠(ak p b).getD (m+1) aB) (h3:(ak p a).getD (k+1) aB≠(ak p b).getD m aB) (h4:(ak p a).getD (k+1) aB≠(ak p b).getD (m+1) aB) :
  oL ((ak p a).getD k aB) ((ak p a).getD (k+1) aB) ((ak p b).getD m aB) ((ak p b).getD (m+1) aB):=by
 have Py:∀ {c d:Ar} {i j:Nat},c∈p.ah->d∈p.ah->i+1<(ak p c).length->j+1<(ak p d).length->fE [(ak p c).getD i aB,(ak p c).getD (i+1) aB,(ak p d).getD j aB,(ak p d).getD (j+1) aB]=true:=fun hc hd hi hj =>
  Eb (h.bW hc (by omega)) (h.bW hc hi) (h.bW hd (by omega)) (h.bW hd hj)
 have same:∀ {i j:Nat},i<j->j+1<(ak p a).length->(ak p a).getD i aB≠(ak p a).getD (j+1) aB->(ak p a).getD (i+1) aB≠(ak p a).getD j aB->oL ((ak p a).getD i aB) ((ak p a).getD (i+1) aB) ((ak p a).getD j aB) ((ak p a).getD (j+1) aB):=by
  intro i j hij hj n1 n2;have hap:=h.uV.2.1 a ha i j hij hj;unfold Cj bI at hap;simp only at hap;rw [if_neg] at hap
  ·rw [beq_iff_eq] at hap;unfold iH at hap;rw [if_pos (Py ha ha (by omega) hj)] at hap;exact oL.of (h.distinct ha (k:=i) (by omega)).1 hap
  ·rintro (e | ⟨e1,e2,e3⟩)
   · subst e;exact n2 rfl
   ·subst e1;apply n1;have hl:=zf p a;rw [show (ak p a).length-1=j+1 by omega] at hl;rw [hl,yZ,e3]
 by_cases hab:a=b
 ·subst hab;rcases Nat.lt_trichotomy k m with hkm | hkm | hkm
  · exact same hkm hm h2 h3
  · subst hkm;exact absurd rfl h1
  · exact (same hkm hk (fun e=>h3 e.symm) (fun e=>h2 e.symm)).comm
 ·have other:∀ {c d:Ar} {i j:Nat},c∈p.ah->d∈p.ah->i+1<(ak p c).length->j+1<(ak p d).length->sD p (bI p c i) (bI p d j)=true ->
    (ak p c).getD i aB≠(ak p d).getD j aB->(ak p c).getD i aB≠(ak p d).getD (j+1) aB->(ak p c).getD (i+1) aB≠(ak p d).getD j aB->(ak p c).getD (i+1) aB≠(ak p d).getD (j+1) aB ->
    oL ((ak p c).getD i aB) ((ak p c).getD (i+1) aB) ((ak p d).getD j aB) ((ak p d).getD (j+1) aB):=by
   intro c d i j hc hd hi hj hjo n1 n2 n3 n4;unfold sD at hjo;split at hjo
   ·exfalso;obtain ⟨n,hn,hat⟩:=List.any_eq_true.1 hjo;unfold Aj at hat;simp only [Bool.and_eq_true] at hat;have at_end:∀ {c:Ar} {i:Nat},c∈p.ah->i+1<(ak p c).length->pU (bI p c i).a (bI p c i).b n.pt=true->(ak p c).getD i aB=n.pt\/(ak p c).getD (i+1) aB=n.pt:=by
     intro c i hc hi ho;rcases h.Lj hc hi hn ho with ⟨e1,e2⟩ | ⟨e1,e2⟩
     · left;subst e1;rw [yZ,e2];exact h.sound.sH hn
     ·right;have hl:=zf p c;rw [fM,show c.via.length+2-1=i+1 by omega] at hl;rw [hl,e2];exact h.sound.sH hn
    rcases at_end hc hi hat.1.2 with e1 | e1<;>rcases at_end hd hj hat.2 with e2 | e2
    · exact n1 (e1.trans e2.symm)
    · exact n2 (e1.trans e2.symm)
    · exact n3 (e1.trans e2.symm)
    · exact n4 (e1.trans e2.symm)
   ·rw [beq_iff_eq] at hjo;unfold iH bI at hjo;rw [if_pos (Py hc hd hi hj)] at hjo;exact oL.of (h.distinct hc hi).1 hjo
  have hpw:=h.uV.2.2;obtain ⟨i,hi,rfl⟩:=List.mem_iff_getElem.1 ha;obtain ⟨j,hj,rfl⟩:=List.mem_iff_getElem.1 hb;rw [List.pairwise_iff_getElem] at hpw;rcases Nat.lt_trichotomy i j with hij | hij | hij
  · exact other ha hb hk hm (hpw i j hi hj hij k hk m hm) h1 h2 h3 h4
  · subst hij;exact absurd rfl hab
  · exact (other hb ha hm hk (hpw j i hj hi hij m hm k hk) (fun e=>h1 e.symm) (fun e=>h3 e.symm) (fun e=>h2 e.symm) (fun e=>h4 e.symm)).comm
end
theorem aeW (a b q:Pt):pU b a q=pU a b q:=by
 unfold pU;have hn:fE [b,a,q]=fE [a,b,q]:=by rw [Bool.eq_iff_iff];simp [fE];constructor<;>(rintro ⟨h1,h2,h3⟩;exact ⟨h2,h1,h3⟩)
 have e1:aF b a b q=- aF a b a q:=by unfold aF;grind
 have e2:DY b q a q=DY a q b q:=by unfold DY;grind
 rw [hn,e1,e2]
 have:decide (-aF a b a q=0)=decide (aF a b a q=0):=by
  rw [Bool.eq_iff_iff];simp
 rw [this]
theorem ZH (a b c d:Pt):iH b a c d=iH a b c d:=by
 unfold iH;have hn:fE [b,a,c,d]=fE [a,b,c,d]:=by rw [Bool.eq_iff_iff];simp [fE];constructor<;>(rintro ⟨h1,h2,h3,h4⟩;exact ⟨h2,h1,h3,h4⟩)
 rw [hn];split
 case isFalse => rfl
 unfold pV;have e0:aF b a c d=- aF a b c d:=by unfold aF;grind
 have e1:aF b a b c=- aF a b a c:=by unfold aF;grind
 have e2:aF b a b d=- aF a b a d:=by unfold aF;grind
 have e3:aF b c c d=aF a c c d-aF a b c d:=by unfold aF;grind
 have e4:aF b c b a=- aF a c a b:=by unfold aF;grind
 rw [e0,e1,e2,e3,e4,<- IC a b c d];by_cases h1:a=b/\c=d/\¬ a=c
 · rw [if_pos h1,if_pos ⟨h1.1.symm,h1.2.1,by rw [<- h1.1];exact h1.2.2⟩]
 rw [if_neg h1,if_neg (show ¬ (b=a/\c=d/\¬ b=c) from fun e=>h1 ⟨e.1.symm,e.2.1,by rw [<- e.1];exact e.2.2⟩)];generalize aF a b c d=n at *;by_cases h0:n=0
 ·rw [if_pos h0,if_pos (show -n=0 by omega)];have:((-aF a b a c=0/\-aF a b a d=0/\aF c d c b=0/\aF c d c a=0)↔(aF a b a c=0/\aF a b a d=0/\aF c d c a=0/\aF c d c b=0)):=by omega
  simp only [this]
 ·rw [if_neg h0,if_neg (show ¬ -n=0 by omega)];by_cases hn':n<0
  ·rw [if_pos hn',if_neg (show ¬ -n<0 by omega)];congr 1;simp only [eq_iff_iff];omega
  ·rw [if_neg hn',if_pos (show -n<0 by omega)];congr 1;simp only [eq_iff_iff];omega
theorem amK (a b c d:Pt):iH a b d c=iH a b c d:=by rw [OQ a b d c,ZH,OQ]
def Df (p:Pl) (a:Ar):Prop:=(∀ k,k+1<(ak p a).length->Ak p (bI p a k)=true)/\(∀ k m,k<m->m+1<(ak p a).length->Cj (bI p a k) (bI p a m)=true)
def x9 (p:Pl) (a b:Ar):Prop:=∀ k,k+1<(ak p a).length->∀ m,m+1<(ak p b).length->sD p (bI p a k) (bI p b m)=true
theorem ZI {p:Pl} {a:Ar} {s:Sg}:s∈FI a (ak p a)↔∃ k,k+1<(ak p a).length/\s=bI p a k:=by
 unfold FI;rw [List.mem_map];constructor
 · rintro ⟨k,hk,rfl⟩;have:=List.mem_range.1 hk;exact ⟨k,by omega,rfl⟩
 · rintro ⟨k,hk,rfl⟩;exact ⟨k,List.mem_range.2 (by omega),rfl⟩
theorem Ui (p:Pl) (hs:(p.ah.map (·.id)).Pairwise (· < ·)):qC p=true↔(∀ a∈p.ah,Df p a)/\p.ah.Pairwise (x9 p):=by
 rw [List.pairwise_map] at hs;unfold qC;rw [TJ];unfold Oy;rw [List.pairwise_flatMap];constructor
 ·rintro ⟨h1,h2,h3⟩;refine ⟨fun a ha=>⟨fun k hk=>h1 _ (List.mem_flatMap.2 ⟨a,ha,Lh hk⟩),fun k m hkm hm=>?_⟩,?_⟩
  ·have h4:=h2 a ha;unfold FI at h4;rw [List.pairwise_map,List.pairwise_iff_getElem] at h4;have h5:=h4 k m (by rw [List.length_range];omega) (by rw [List.length_range];omega) hkm;simp only [List.getElem_range] at h5;unfold Cm at h5;rw [if_pos rfl] at h5;exact h5
  ·refine (hs.and h3).imp ?_;rintro a b ⟨hlt,h4⟩ k hk m hm;have h5:=h4 _ (Lh hk) _ (Lh hm);unfold Cm at h5;rw [if_neg (show ¬ (bI p a k).arc.id=(bI p b m).arc.id from fun e=>by have e':a.id=b.id:=e;omega)] at h5;exact h5
 ·rintro ⟨h1,h2⟩;refine ⟨fun s hs'=>?_,fun a ha=>?_,?_⟩
  ·obtain ⟨a,ha,hs'⟩:=List.mem_flatMap.1 hs';obtain ⟨k,hk,rfl⟩:=ZI.1 hs';exact (h1 a ha).1 k hk
  ·unfold FI;rw [List.pairwise_map,List.pairwise_iff_getElem];intro k m hk hm hkm;simp only [List.getElem_range];rw [List.length_range] at hm;unfold Cm;rw [if_pos rfl];exact (h1 a ha).2 k m hkm (by omega)
  ·refine (hs.and h2).imp ?_;rintro a b ⟨hlt,h4⟩ s hs1 t ht;obtain ⟨k,hk,rfl⟩:=ZI.1 hs1;obtain ⟨m,hm,rfl⟩:=ZI.1 ht;unfold Cm;rw [if_neg (show ¬ (bI p a k).arc.id=(bI p b m).arc.id from fun e=>by have e':a.id=b.id:=e;omega)];exact h4 k hk m hm
theorem amL (p:Pl) (s t:Sg):sD p s t=sD p t s:=by
 unfold sD;rw [OQ t.a t.b s.a s.b]
 have:Aj s t=Aj t s:=by
  funext x
  unfold Aj
  cases yR s.arc x.id<;>cases yR t.arc x.id<;>cases pU s.a s.b x.pt<;>cases pU t.a t.b x.pt<;>rfl
 rw [this]
theorem x9.symm {p:Pl} {a b:Ar} (h:x9 p a b):x9 p b a:=fun k hk m hm=>by rw [amL];exact h m hm k hk
def iL (a:Ar):Ar:=⟨a.id,a.dst,a.fr,a.via.reverse,a.right,a.left⟩
theorem ZJ (a:Ar):iL (iL a)=a:=by cases a;simp [iL]
theorem Pz (p:Pl) (a:Ar):ak p (iL a)=(ak p a).reverse:=by simp [ak,iL]
theorem aeX (l:List Pt) (k:Nat) (hk:k<l.length):l.reverse.getD k aB=l.getD (l.length-1-k) aB:=by
 rw [List.getD_eq_getElem?_getD,List.getD_eq_getElem?_getD,List.getElem?_reverse hk]
theorem Uj (p:Pl) (a:Ar) (k:Nat) (hk:k+1<(ak p a).length) :
  bI p (iL a) k=⟨iL a,k,(ak p a).length-1,(bI p a ((ak p a).length-2-k)).b,(bI p a ((ak p a).length-2-k)).a⟩:=by
 unfold bI;rw [Pz,List.length_reverse,aeX _ _ (by omega),aeX _ _ hk];simp only [Sg.mk.injEq,true_and];exact ⟨by congr 1;omega,by congr 1;omega⟩
theorem amM (p:Pl) (a:Ar) (k:Nat) (hk:k+1<(ak p a).length):Ak p (bI p (iL a) k)=Ak p (bI p a ((ak p a).length-2-k)):=by
 rw [Uj p a k hk];unfold Ak;have h1:FD ⟨iL a,k,(ak p a).length-1,(bI p a ((ak p a).length-2-k)).b,(bI p a ((ak p a).length-2-k)).a⟩=FD (bI p a ((ak p a).length-2-k)):=by
  funext x
  unfold FD;rw [aeW];congr 1;unfold Ti;have c1:(((k:Nat):Int) == 0)=(((((ak p a).length-2-k:Nat):Int)) == (((ak p a).length-1:Nat):Int)-1):=by
   rw [Bool.eq_iff_iff,beq_iff_eq,beq_iff_eq];omega
  have c2:(((k:Nat):Int) == (((ak p a).length-1:Nat):Int)-1)=(((((ak p a).length-2-k:Nat):Int)) == 0):=by
   rw [Bool.eq_iff_iff,beq_iff_eq,beq_iff_eq];omega
  show ((((k:Nat):Int) == 0) && (a.dst == x.id) || (((k:Nat):Int) == (((ak p a).length-1:Nat):Int)-1) && (a.fr == x.id))=(((((ak p a).length-2-k:Nat):Int) == 0) && (a.fr == x.id) || (((((ak p a).length-2-k:Nat):Int)) == (((ak p a).length-1:Nat):Int)-1) && (a.dst == x.id))
  rw [c1,c2,Bool.or_comm]
 have h2:FH ⟨iL a,k,(ak p a).length-1,(bI p a ((ak p a).length-2-k)).b,(bI p a ((ak p a).length-2-k)).a⟩=FH (bI p a ((ak p a).length-2-k)):=by
  unfold FH;have c1:decide ((bI p a ((ak p a).length-2-k)).b=(bI p a ((ak p a).length-2-k)).a)=decide ((bI p a ((ak p a).length-2-k)).a=(bI p a ((ak p a).length-2-k)).b):=by
   rw [Bool.eq_iff_iff,decide_eq_true_eq,decide_eq_true_eq];exact eq_comm
  have c2:((iL a).fr != (iL a).dst)=(a.fr != a.dst):=by
   show (a.dst != a.fr)=_
   rw [Bool.eq_iff_iff,bne_iff_ne,bne_iff_ne];exact ne_comm
  simp only [c1,c2];rfl
 rw [h1,h2]
theorem aeY (p:Pl) (a:Ar) (h:Df p a):Df p (iL a):=by
 constructor
 ·intro k hk;rw [Pz,List.length_reverse] at hk;rw [amM p a k hk];exact h.1 _ (by omega)
 ·intro k m hkm hm;rw [Pz,List.length_reverse] at hm;have h1:=h.2 ((ak p a).length-2-m) ((ak p a).length-2-k) (by omega) (by omega);rw [Uj p a k (by omega),Uj p a m hm];unfold Cj at h1 ⊢;simp only [] at h1 ⊢;rw [ZH,amK,OQ];have hc:(m=k+1\/(k=0/\m+1=(ak p a).length-1/\(iL a).fr=(iL a).dst))↔((bI p a ((ak p a).length-2-k)).i=(bI p a ((ak p a).length-2-m)).i+1\/((bI p a ((ak p a).length-2-m)).i=0/\(bI p a ((ak p a).length-2-k)).i+1=(bI p a ((ak p a).length-2-k)).n/\(bI p a ((ak p a).length-2-m)).arc.fr=(bI p a ((ak p a).length-2-m)).arc.dst)):=by
   show (m=k+1\/(k=0/\m+1=(ak p a).length-1/\a.dst=a.fr))↔((ak p a).length-2-k=(ak p a).length-2-m+1\/((ak p a).length-2-m=0/\(ak p a).length-2-k+1=(ak p a).length-1/\a.fr=a.dst))
   have:a.dst=a.fr↔a.fr=a.dst:=eq_comm
   omega
  simp only [hc];exact h1
theorem aeZ (p:Pl) (a:Ar):Df p (iL a)↔Df p a:=⟨fun h=>by have:=aeY p _ h;rwa [ZJ] at this,aeY p a⟩
theorem ae0 (p:Pl) (a b:Ar) (h:x9 p a b):x9 p (iL a) b:=by
 intro k hk m hm;rw [Pz,List.length_reverse] at hk;have h1:=h ((ak p a).length-2-k) (by omega) m hm;rw [Uj p a k hk];unfold sD at h1 ⊢;simp only [] at h1 ⊢;rw [ZH]
 have:Aj ⟨iL a,k,(ak p a).length-1,(bI p a ((ak p a).length-2-k)).b,(bI p a ((ak p a).length-2-k)).a⟩ (bI p b m)=Aj (bI p a ((ak p a).length-2-k)) (bI p b m):=by
  funext x
  unfold Aj;rw [aeW]
  have:yR (iL a) x.id=yR a x.id:=by unfold yR iL;exact Bool.or_comm _ _
  show (yR (iL a) x.id && _ && _ && _)=(yR a x.id && _ && _ && _)
  rw [this]
 rw [this];exact h1
theorem Uk (p:Pl) (a b:Ar):x9 p (iL a) b↔x9 p a b:=⟨fun h=>by have:=ae0 p _ b h;rwa [ZJ] at this,ae0 p a b⟩
theorem ae1 (p:Pl) (a b:Ar):x9 p b (iL a)↔x9 p b a:=⟨fun h=>((Uk p a b).1 h.symm).symm,fun h=>((Uk p a b).2 h.symm).symm⟩
def jL (p:Pl) (i:Nat) (hi:i<p.ah.length):Pl:=⟨p.nodes,p.ah.set i (iL p.ah[i]),p.faces⟩
theorem map_set {α β:Type} (l:List α) (i:Nat) (hi:i<l.length) (b:α) (f:α->β) (h:f b=f l[i]):(l.set i b).map f=l.map f:=by
 apply List.ext_getElem
 · simp
 ·intro j h1 h2;simp only [List.getElem_map,List.getElem_set];split
  · rename_i e;subst e;exact h
  · rfl
theorem all_map' {α:Type} (l:List α) (f:α->Bool):l.all f=(l.map f).all id:=by rw [List.all_map];rfl
theorem any_map' {α:Type} (l:List α) (f:α->Bool):l.any f=(l.map f).any id:=by rw [List.any_map];rfl
theorem ZK (p:Pl) (i:Nat) (hi:i<p.ah.length):(jL p i hi).ah.length=p.ah.length:=by unfold jL;simp
theorem LQ (p:Pl) (i:Nat) (hi:i<p.ah.length) (j:Nat) (hj:j<p.ah.length):(jL p i hi).ah[j]'(by rw [ZK];exact hj)=if i=j then iL p.ah[i] else p.ah[j]:=by
 unfold jL;simp only [List.getElem_set]
theorem amN (p:Pl) (i:Nat) (hi:i<p.ah.length) (hs:(p.ah.map (·.id)).Pairwise (· < ·)):qC (jL p i hi)=qC p:=by
 have hs':((jL p i hi).ah.map (·.id)).Pairwise (· < ·):=by
  have e:(jL p i hi).ah.map (·.id)=p.ah.map (·.id):=map_set p.ah i hi _ (·.id) rfl;rw [e];exact hs
 rw [Bool.eq_iff_iff,Ui _ hs,Ui _ hs'];have hg:∀ a,Df (jL p i hi) a↔Df p a:=fun a=>Iff.rfl;have hq:∀ a b,x9 (jL p i hi) a b↔x9 p a b:=fun a b=>Iff.rfl;have hl:=ZK p i hi;constructor
 ·rintro ⟨h1,h2⟩;rw [List.pairwise_iff_getElem] at h2 ⊢;constructor
  ·intro a ha;obtain ⟨j,hj,rfl⟩:=List.mem_iff_getElem.1 ha;have h3:=(hg _).1 (h1 _ (List.getElem_mem (show j<(jL p i hi).ah.length by omega)));rw [LQ p i hi j hj] at h3;split at h3
   · rename_i e;subst e;exact (aeZ p _).1 h3
   · exact h3
  ·intro j k hj hk hjk;have h3:=(hq _ _).1 (h2 j k (by omega) (by omega) hjk);rw [LQ p i hi j hj,LQ p i hi k hk] at h3;by_cases e1:i=j
   ·rw [if_pos e1,if_neg (by omega)] at h3;subst e1;exact (Uk p _ _).1 h3
   ·rw [if_neg e1] at h3;by_cases e2:i=k
    ·rw [if_pos e2] at h3;subst e2;exact (ae1 p _ _).1 h3
    ·rw [if_neg e2] at h3;exact h3
 ·rintro ⟨h1,h2⟩;rw [List.pairwise_iff_getElem] at h2 ⊢;constructor
  ·intro a ha;obtain ⟨j,hj,rfl⟩:=List.mem_iff_getElem.1 ha;have h3:=h1 _ (List.getElem_mem (show j<p.ah.length by omega));refine (hg _).2 ?_;rw [LQ p i hi j (by omega)];split
   · rename_i e;subst e;exact (aeZ p _).2 h3
   · exact h3
  ·intro j k hj hk hjk;have h3:=h2 j k (by omega) (by omega) hjk;refine (hq _ _).2 ?_;rw [LQ p i hi j (by omega),LQ p i hi k (by omega)];by_cases e1:i=j
   ·rw [if_pos e1,if_neg (by omega)];subst e1;exact (Uk p _ _).2 h3
   ·rw [if_neg e1];by_cases e2:i=k
    ·rw [if_pos e2];subst e2;exact (ae1 p _ _).2 h3
    ·rw [if_neg e2];exact h3
theorem amO (p:Pl) (i:Nat) (hi:i<p.ah.length):mQ (jL p i hi)=mQ p:=by
 have e1:lY (jL p i hi)=lY p:=by
  unfold lY;rw [any_map' (jL p i hi).ah,any_map' p.ah];have:(jL p i hi).ah.map (fun a=>decide (64<a.via.length))=p.ah.map fun a=>decide (64<a.via.length):=map_set _ i hi _ _ (by simp [iL])
  rw [this];have hl:(jL p i hi).ah.length=p.ah.length:=ZK p i hi;rw [hl];rfl
 have e2:(jL p i hi).ah.map (·.id)=p.ah.map (·.id):=map_set _ i hi _ _ rfl;have e3:sF (jL p i hi)=sF p:=by unfold sF;rw [e2];rfl
 have e4:rY (jL p i hi)=rY p:=by
  unfold rY Ad;rw [e2,List.all_append,List.all_append,List.all_flatMap,List.all_flatMap,all_map' (jL p i hi).ah,all_map' p.ah];have:(jL p i hi).ah.map (fun a=>a.via.all lZ)=p.ah.map fun a=>a.via.all lZ:=map_set _ i hi _ _ (by simp [iL])
  rw [this];rfl
 have e5:(jL p i hi).ah.all (mP (jL p i hi))=p.ah.all (mP p):=by
  rw [all_map',all_map' p.ah];have:(jL p i hi).ah.map (mP (jL p i hi))=p.ah.map (mP p):=map_set _ i hi _ (mP p) (by unfold mP iL;exact Bool.and_comm _ _)
  rw [this]
 have e6:Au (jL p i hi)=Au p:=by
  unfold Au;rw [all_map',all_map' p.ah];have:(jL p i hi).ah.map (fun a=>jc (jL p i hi).faces a.left && jc (jL p i hi).faces a.right)=p.ah.map (fun a=>jc p.faces a.left && jc p.faces a.right):=map_set _ i hi _ (fun a=>jc p.faces a.left && jc p.faces a.right) (by unfold iL;exact Bool.and_comm _ _)
  rw [this]
 unfold mQ;rw [e1,e3,e4,e5,e6]
 show (if lY p=true then 3 else if sF p=false then 10 else if rY p=false then 2 else if Ae (p.nodes.map (·.pt))=true then 8 else if p.ah.all (mP p)=false then 7 else if Au p=false then 12 else if qC (jL p i hi)=false then 11 else 0)=_
 by_cases ho:sF p=false
 · simp only [ho,if_true]
 ·have ha:(p.ah.map (·.id)).Pairwise (· < ·):=by
   have:=ho
   unfold sF at this;rw [Bool.not_eq_false,Bool.and_eq_true,Bool.and_eq_true] at this;exact KX _ this.1.2
  rw [amN p i hi ha]
theorem ae2 (l:List Pt):Ae l=false↔l.Pairwise (·≠·):=by
 constructor
 ·intro h;rw [List.pairwise_iff_getElem];intro i j hi hj hij e;have:=ac9 l j i hij hj e.symm
  rw [h] at this
  cases this
 ·intro h;rw [List.pairwise_iff_getElem] at h;exact ada l fun j k hk hj e=>h k j (by omega) hj hk e.symm
section
variable {p:Pl} (h:Valid p)
include h
end
theorem amP (a:Ar) (l:List Ar) (id:Int):kV (a::l) id=((if a.fr=id then (1:Int) else 0)+(if a.dst=id then 1 else 0))+kV l id:=by
 unfold kV;rw [List.map_cons,List.sum_cons]
theorem amQ (l:List Ar) (id:Int):kV l id=0↔∀ a∈l,a.fr≠id/\a.dst≠id:=by
 induction l with
 | nil=>simp [kV]
 | cons a l ih =>
  rw [amP];have:=acV l id
  constructor
  ·intro h b hb;have h1:a.fr≠id:=fun e=>by rw [if_pos e] at h;split at h<;>omega
   have h2:a.dst≠id:=fun e=>by rw [if_neg h1,if_pos e] at h;omega
   rw [if_neg h1,if_neg h2] at h;rcases List.mem_cons.1 hb with rfl | hb
   · exact ⟨h1,h2⟩
   · exact ih.1 (by omega) b hb
  ·intro h;rw [if_neg (h a (by simp)).1,if_neg (h a (by simp)).2,ih.2 fun b hb=>h b (by simp [hb])];rfl
end Go.Proofs.YtialfdomhoojiaaGreat
