import Derived.Test.YtialfdomhoojiaaGreatQJ10
set_option linter.unusedSimpArgs false
set_option linter.unusedVariables false
set_option maxRecDepth 100000
set_option maxHeartbeats 8000000
namespace Go.Proofs.YtialfdomhoojiaaGreat
open Go.RowKit
theorem Valid.short {p:Pl} (h:Valid p):Short p:=fun a ha=>by have:=h.Tv ha;omega
theorem Short.long {p:Pl} (h:Short p):jX p:=fun a ha=>by have:=h a ha;omega
theorem Valid.adS {p:Pl} (h:Valid p) {d:Int} {a:Ar} (e:Fg p d=some a):pathOf p (Ez d)=some (AV p a):=by
 obtain ⟨ha,hi⟩:=vN e;rw [hi];exact h.sound.path ha
theorem apk (d:Int):max d (-d)=Ez d:=by unfold Ez;split<;>omega
theorem apl {p:Pl} {l:List Int} {k:Nat} (hk:k<l.length) {a:Ar} (e:Fg p l[k]=some a):Nj p l (k+1)=Nj p l k+(if 0<l[k] then QU (AV p a) else -QU (AV p a)):=by
 have:l.getD k 0=l[k]:=by rw [Fj,Dh hk];rfl
 rw [Nj,this];unfold QB;rw [e]
theorem aiI {p:Pl} {l:List Int} {k:Nat} (hk:k<l.length) (e:Fg p l[k]=none):Um p l=0:=by
 unfold Um;rw [AX];rintro ⟨-,h⟩;have:=h _ (BO hk)
 rw [e] at this;cases this
theorem aiJ {p:Pl} {l:List Int} (hl:l.length<=512) (h:∀ j (hj:j<l.length),j<l.length->(Fg p l[j]).isSome=true):Um p l=Nj p l l.length:=by
 unfold Um;rw [AZ];refine ⟨hl,fun d hd=>?_⟩;obtain ⟨j,hj,rfl⟩:=EF.1 hd;exact h j hj hj
theorem apm (v u:Value) (p:Pl) (l:List Int) (w:World) (h:Ci w v p) (hu:Ints w u l) (hv:Valid p) (hw:∀ d∈l,En d) :
  Calls Tryz.prog 120 #[v,u] w fun e w'=>e=.returned (.int .i64 (Um p l))/\AU w w':=by
 have HA:=AA (fun d (hd:En d) W (hW:AU w W)=>aiC v p d W (h.mono hW) hv.short.long hd);have HP:=AA (fun id W (hW:AU w W)=>aBK v p id W (h.mono hW) hv.short);obtain ⟨_,_,_,al,rfl,hpa,⟨An,cn,rfl,-⟩,⟨⟨Aa,ca,rfl,-⟩,-⟩,⟨Af,cf,rfl,-⟩⟩:=h;obtain ⟨Al,cl,rfl,hl1,hl2,hR⟩:=hu;unfold maxLen at hl2;have HR:=AA hR;have HV:=AA hv;have HW:=AA hw;generalize al.length=na at *;generalize p.nodes.length=nn at *;generalize p.faces.length=nf at *;obtain ⟨q,hq⟩:=BN (Um p l);rw [hq];have Hq:=AA hq;clear hpa hR hv hw hq;go_enter Tryz.func120,Tryz.ntmps120;by_cases hbig:512<l.length
 case pos =>
  have hbig':512<(l.length:Int):=by omega
  have hf:q=0:=by rw [<- Hq.out];unfold Um;rw [AX AB]
  subst hf;go_wp2;go_ret;exact ⟨rfl,bA (bR w) _⟩
 have hbig':¬ 512<(l.length:Int):=by omega
 go_wp2_with fail;obtain ⟨W0,hW⟩:=BR (w.alloc (.cells #[.slice An nn cn,.slice Aa na ca,.slice Af nf cf] 26));have HB0:=AA (show AU w W0 by rw [hW];exact bA (bR w) _);have CG:=AA (show AO W0 w.heap.size 26 #[.slice An nn cn,.slice Aa na ca,.slice Af nf cf] by rw [hW];exact AO.made rfl _ _);rw [<- hW];clear hW;go_loopw [4,18] (fun n i wr=>∃ k:Nat,k<=l.length/\i=.int .i64 k/\n=.int .i64 (Nj p l k)/\AU W0 wr/\∀ j (hj:j<l.length),j<k->(Fg p l[j]).isSome=true) (fun _ i _=>l.length-(intOf i).toNat)
 case atStart => exact ⟨0,Bv _,rfl,rfl,bR W0,fun _ _ h=>by omega⟩
 case round =>
  obtain ⟨k,hk,rfl,rfl,hb,hno⟩:=hrel;have Hb:=AA hb;have Hno:=AA hno;have X2:=CG.out.keep hb;clear hb hno;obtain ⟨BU,BX,Bg,CB,-,-,-⟩:=X2.Az;by_cases hlt:k<l.length
  case neg =>
   have hkk:k=l.length:=by omega
   subst hkk;have hf:=aiJ (p:=p) (l:=l) AB Hno.out;rw [Hq.out] at hf;have HF:=AA hf;clear hf;go_wp2;go_ret;exact ⟨Df HF.out.symm,bT HB0.out Hb.out⟩
  obtain ⟨b,o,rfl,hlb,c0⟩:=(HR.out.mono (bT HB0.out Hb.out)).int hlt;have hwd:=HW.out _ (BO hlt);have Jw:=AA (HA.out l[k] hwd)
  cases har:Fg p l[k] with
  | none =>
   rw [har] at Jw;have hf:=aiI hlt har;rw [Hq.out] at hf;subst hf;clear har hwd;go_wp2_with fail;refine (Jw.out _ (bT HB0.out Hb.out)).mono ?_;rintro e w1 ⟨A1,n1,c1,rfl,hb1⟩;have B1:=AA (bT Hb.out hb1);clear hb1;simp only [gX];go_wp2;go_ret;exact ⟨rfl,bT HB0.out (bA B1.out _)⟩
  | some a =>
  rw [har] at Jw;have hst:=apl hlt har;have hpo:=HV.out.adS har;have ha:=(vN har).1;have hpl:=Ey p a;have hvl:=HV.out.Tv ha;have bJ:=AA (fun k hk=>HV.out.aiF ha k hk);have hub:=HV.out.aiG l k;have hne:l[k]≠-9223372036854775808/\l[k]≠0:=by
   constructor
   · intro e;rw [e] at har;unfold Fg at har;rw [AZ (.inr rfl)] at har;cases har
   · intro e;rw [e] at har;unfold Fg at har;rw [AZ (.inl rfl)] at har;cases har
  have hbd:=aB1 hwd;have Kr:=AA (HP.out (max l[k] (-l[k])));have hpm:pathOf p (max l[k] (-l[k]))=some (AV p a):=by rw [apk];exact hpo
  rw [hpm] at Kr;unfold iR at Kr;simp only [H9,VP,if_true] at Kr;have DU:=AA hst;have PY:=AA (show (Fg p l[k]).isSome=true by rw [har];rfl);have PZ:=AA (all_succ (p:=fun d=>(Fg p d).isSome=true) Hno.out hlt PY.out);have hk1:IntKind.i64.wrap (-l[k])=-l[k]:=D6 _ AB;have Wj:=AA (fun q (hq:q∈AV p a)=>HV.out.vO ha hq);have UE:=AA (bJ.out ((AV p a).length-1) AB);have HNe:=AA hne;have Un:=AA (show k+1<=512 by omega);clear hst hpo har hwd hpm hne hbd;unfold QU at DU;generalize Nj p l k=n at *;generalize hP:AV p a=P at *;generalize l[k]=d at *;generalize a.via.length=vl at *;go_wp2_with fail;refine (Jw.out _ (bT HB0.out Hb.out)).mono ?_;rintro e w1 ⟨A1,n1,c1,rfl,hb1⟩;replace X2:=X2.keep hb1;have B1:=AA (bT Hb.out hb1);clear hb1 BU BX Bg CB Jw c0 hlb;simp only [VP,H9]
  try clear BU BX Bg CB
  obtain ⟨BU,BX,Bg,CB,-,-,-⟩:=X2.Az;go_wp2_with fail;refine (Kr.out _ (bT HB0.out (bA B1.out _))).mono ?_;rintro e w2 ⟨A2,c2,rfl,hb2,ho2⟩;have B2:=AA (bT (bA B1.out _) hb2);obtain ⟨Aq,cq,he,hq1,hq2,U0⟩:=ho2.sl;injection he with e1 e2 e3;subst e1 e3;clear e2;unfold maxLen at hq2;have bK:=AA U0;clear hb2 ho2 U0 Kr X2 BU BX Bg CB;obtain ⟨N,hN⟩:∃ N,P.length=N+1:=⟨P.length-1,AB⟩;have HN:=AA hN;have hNs:N<=65:=by omega
  rw [hN] at UE DU;simp only [gu] at UE DU;have k2:IntKind.i64.wrap (N:Int)=(N:Int):=D6 _ AB;rw [hN] at hq1 ⊢;clear hN hpl hvl;go_wp2_with fail;obtain ⟨W2,rfl⟩:=BR w2;go_loopw [11,44] (fun s i wx=>∃ j:Nat,j<=N/\i=.int .i64 j/\s=.int .i64 (Jl P j)/\AU W2 wx) (fun _ i _=>N-(intOf i).toNat)
  case atStart => exact ⟨0,Bv _,rfl,rfl,bR W2⟩
  case round =>
   obtain ⟨j,hj,rfl,rfl,hbx⟩:=hrel;have Fv:=AA hbx;clear hbx;by_cases hjl:j<N
   case pos =>
    have hP1:j<P.length:=by have:=HN.out;omega
    have hP2:j+1<P.length:=by have:=HN.out;omega
    obtain ⟨b1,o1,hA1,vP,c0,c1'⟩:=(bK.out.mono Fv.out).pt hP1;subst hA1;obtain ⟨b2,o2,hA2,-,d0,d1⟩:=(bK.out.mono Fv.out).pt hP2;simp only [JM,Addr.mk.injEq,and_true] at hA2;obtain ⟨rfl,rfl⟩:=hA2;have g1:=Wj.out _ (BO hP1);have g2:=Wj.out _ (BO hP2);have x1:=o8 g1.1 g2.2;have x2:=o8 g2.1 g1.2;have tb:=bJ.out j (by have:=HN.out;omega);have tb2:=bJ.out (j+1) (by have:=HN.out;omega);have hstep:Jl P (j+1)=Jl P j+(P[j].x*P[j+1].y-P[j+1].x*P[j].y):=by
     rw [Jl];unfold Oq;simp only [Fj,Dh hP1,Dh hP2,H9]
    rw [hstep] at tb2;have adT:=AA hstep;clear hstep g1 g2;generalize P[j]=p1 at *;generalize P[j+1]=p2 at *;generalize hT:Jl P j=T at *;have q1:0<=(j:Int):=by omega
    have q2:(j:Int)<(N:Int)+1:=by omega
    have q3:0<=(j:Int)+1:=by omega
    have q4:(j:Int)+1<(N:Int)+1:=by omega
    have q5:((j:Int)+1).toNat=j+1:=by omega
    have m0:IntKind.i64.wrap ((j:Int)+1)=(j:Int)+1:=D6 _ AB;have m1:IntKind.i64.wrap (p1.x*p2.y)=p1.x*p2.y:=D6 _ AB;have m2:IntKind.i64.wrap (p2.x*p1.y)=p2.x*p1.y:=D6 _ AB;have m3:IntKind.i64.wrap (p1.x*p2.y-p2.x*p1.y)=p1.x*p2.y-p2.x*p1.y:=D6 _ AB;have m4:IntKind.i64.wrap (T+(p1.x*p2.y-p2.x*p1.y))=T+(p1.x*p2.y-p2.x*p1.y):=D6 _ AB;clear x1 x2 tb tb2 hT hub;go_upto_region 16 with fail;refine DJ (wr) (.run 28 0 0 (.done)) fun CU QR Ae Ah hS=>?_
    iterate 28 refine Aj ?_
    refine DF ?_;clear hS Ah Ae;intro hB;have Bx:=AA (bT Fv.out hB);clear hB m0 m1 m2 m3 m4;go_wp2;go_roundw
    case rel => exact ⟨j+1,AB,BJ,by rw [adT.out],Bx.out⟩
    case measure => exact BL
   case neg =>
   have hjj:j=N:=by omega
   subst hjj;have htl:=UE.out;have hsz:=Un.out;have Bx:=AA (bT B2.out Fv.out);generalize hT:Jl P j=T at *;clear hT;by_cases hneg:d<0
   ·have hst:=DU.out;rw [AX AB] at hst;have adU:=AA hst;have m1:IntKind.i64.wrap (-T)=-T:=D6 _ AB;have m2:IntKind.i64.wrap (n + -T)=n + -T:=D6 _ AB;clear hst htl hub hsz;go_wp2;go_roundw
    case rel => exact ⟨k+1,AB,BJ,by rw [adU.out],Bx.out,PZ.out⟩
    case measure => exact BL
   ·have hst:=DU.out;rw [AZ (by have:=HNe.out.2;omega)] at hst;have adU:=AA hst;have m2:IntKind.i64.wrap (n+T)=n+T:=D6 _ AB;clear hst htl hub hsz;go_wp2;go_roundw
    case rel => exact ⟨k+1,AB,BJ,by rw [adU.out],Bx.out,PZ.out⟩
    case measure => exact BL
theorem vU {p:Pl} (h:Valid p) {d:Int} {a:Ar} (e:Fg p d=some a):Tz p d=if 0<d then AV p a else (AV p a).reverse:=by
 have hpo:=h.adS e;unfold Ez at hpo;unfold Tz;by_cases h1:0<d
 ·rw [AX AB] at hpo;rw [AZ h1,AZ h1,hpo];rfl
 ·have hne:d≠0:=by
   intro e0;rw [e0] at e;unfold Fg at e;rw [AZ (.inl rfl)] at e;cases e
  rw [AZ AB] at hpo;rw [AX h1,AX h1,hpo];rfl
theorem apn {p:Pl} (h:Valid p) {d:Int} {a:Ar} (e:Fg p d=some a):QB p d=QU (Tz p d):=by
 rw [vU h e];unfold QB;rw [e];simp only [];have hl:=Ey p a;split
 · rfl
 · rw [ape _ AB]
theorem adV (v u:Value) (p:Pl) (l:List Int) (w:World) (h:Ci w v p) (hu:Ints w u l) (hv:Valid p) (hw:∀ d∈l,En d) :
  Calls Tryz.prog 132 #[v,u] w fun e w'=>e=.returned (.int .i64 (Um p l))/\AU w w':=by
 have HO:=AA (fun d W (hW:AU w W)=>apc v p d W (h.mono hW));have HP:=AA (fun d (hd:-9223372036854775808<d/\d<=9223372036854775807) W (hW:AU w W)=>aiH v p d W (h.mono hW) hv.short hd);obtain ⟨_,_,_,al,rfl,hpa,⟨An,cn,rfl,-⟩,⟨⟨Aa,ca,rfl,-⟩,-⟩,⟨Af,cf,rfl,-⟩⟩:=h;obtain ⟨Al,cl,rfl,hl1,hl2,hR⟩:=hu;unfold maxLen at hl2;have HR:=AA hR;have HV:=AA hv;have HW:=AA hw;generalize al.length=na at *;generalize p.nodes.length=nn at *;generalize p.faces.length=nf at *;obtain ⟨q,hq⟩:=BN (Um p l);rw [hq];have Hq:=AA hq;clear hpa hR hv hw hq;go_enter Tryz.func132,Tryz.ntmps132;by_cases hbig:512<l.length
 case pos =>
  have hbig':512<(l.length:Int):=by omega
  have hf:q=0:=by rw [<- Hq.out];unfold Um;rw [AX AB]
  subst hf;go_wp2;go_ret;exact ⟨rfl,bA (bR w) _⟩
 have hbig':¬ 512<(l.length:Int):=by omega
 go_wp2_with fail;obtain ⟨W0,hW⟩:=BR (w.alloc (.cells #[.slice An nn cn,.slice Aa na ca,.slice Af nf cf] 26));have HB0:=AA (show AU w W0 by rw [hW];exact bA (bR w) _);have CG:=AA (show AO W0 w.heap.size 26 #[.slice An nn cn,.slice Aa na ca,.slice Af nf cf] by rw [hW];exact AO.made rfl _ _);rw [<- hW];clear hW;go_loopw [5,6] (fun n i wr=>∃ k:Nat,k<=l.length/\i=.int .i64 k/\n=.int .i64 (Nj p l k)/\AU W0 wr/\∀ j (hj:j<l.length),j<k->(Fg p l[j]).isSome=true) (fun _ i _=>l.length-(intOf i).toNat)
 case atStart => exact ⟨0,Bv _,rfl,rfl,bR W0,fun _ _ h=>by omega⟩
 case round =>
  obtain ⟨k,hk,rfl,rfl,hb,hno⟩:=hrel;have Hb:=AA hb;have Hno:=AA hno;have aiK:=AA (CG.out.keep hb);have X2:=aiK.out;clear hb hno;obtain ⟨BU,BX,Bg,CB,-,-,-⟩:=X2.Az;by_cases hlt:k<l.length
  case neg =>
   have hkk:k=l.length:=by omega
   subst hkk;have hf:=aiJ (p:=p) (l:=l) AB Hno.out;rw [Hq.out] at hf;have HF:=AA hf;clear hf;go_wp2;go_ret;exact ⟨Df HF.out.symm,bT HB0.out Hb.out⟩
  have Ep:=AA (bT HB0.out Hb.out);obtain ⟨b,o,rfl,hlb,c0⟩:=(HR.out.mono Ep.out).int hlt;have hwd:=HW.out _ (BO hlt);have hok:=HV.out.aph (aB1 hwd);have bM:=HO.out l[k];unfold o7 at bM;rw [hok] at bM;have q1:0<=(k:Int):=by omega
  have q2:(k:Int)<l.length:=by omega
  clear hok
  cases har:Fg p l[k] with
  | none =>
   rw [har] at bM;have dJ:=AA bM;have hf:=aiI hlt har;rw [Hq.out] at hf;subst hf;clear har hwd bM;go_upto_region 7 with fail;refine DJ (wr) (.run 5 0 0 (.call 5 63 (.take 6 127 (.done)))) fun CU QR Ae Ah hS=>?_
   iterate 5 refine Aj ?_
   refine GL (dJ.out _ (bT Ep.out hS)) ?_;clear hS;intro CX CV hS;refine Aj ?_;refine DF ?_;clear hS Ah Ae;intro hB;go_wp2;go_ret;exact ⟨rfl,bT Ep.out hB⟩
  | some a =>
  rw [har] at bM;have dJ:=AA bM;have hst:Nj p l (k+1)=Nj p l k+QU (Tz p l[k]):=by
   have e0:l.getD k 0=l[k]:=by rw [Fj,Dh hlt];rfl
   rw [Nj,e0,apn HV.out har]
  have ha:=(vN har).1;have hpl:=Ey p a;have hvl:=HV.out.Tv ha;have hub:=HV.out.aiG l k;have hne:l[k]≠-9223372036854775808:=by
   intro e;rw [e] at har;unfold Fg at har;rw [AZ (.inr rfl)] at har;cases har
  have hbd:=aB1 hwd;have Kr:=AA (HP.out l[k] AB);have Wj:=AA (show ∀ q∈Tz p l[k],NJ q from fun q hq=>by
   rw [vU HV.out har] at hq;split at hq
   · exact HV.out.vO ha hq
   · exact HV.out.vO ha (aAI.1 hq))
  have hPl:(Tz p l[k]).length=a.via.length+2:=by
   rw [vU HV.out har];split
   · exact hpl
   · rw [XU];exact hpl
  have PZ:=AA (all_succ (p:=fun d=>(Fg p d).isSome=true) Hno.out hlt (by rw [har];rfl));obtain ⟨N,hN⟩:∃ N,(Tz p l[k]).length=N+1:=⟨(Tz p l[k]).length-1,AB⟩;have HN:=AA hN;have hNs:N<=65:=by omega
  clear hN hPl hvl;have DU:=AA hst;have Un:=AA (show k+1<=512 by omega);clear hst har hwd hne hbd bM hpl;unfold QU at DU;unfold bU at Kr;generalize Nj p l k=n at *;generalize hP:Tz p l[k]=P at *;have hPd:=hP;clear hP;generalize hd:l[k]=d at *;have Hd:=AA hd;clear hPd hd;go_upto_region 7 with fail;refine DJ (wr) (.run 5 0 0 (.call 5 63 (.take 6 127 (.done)))) fun CU QR Ae Ah hS=>?_
  iterate 5 refine Aj ?_
  refine GL (dJ.out _ (bT Ep.out hS)) ?_;clear hS;intro CX CV hS;refine Aj ?_;refine DF ?_;clear hS Ah Ae;intro hB;have B1:=AA (bT Hb.out hB);have apo:=AA (aiK.out.keep hB);clear hB X2 BU BX Bg CB c0 hlb;obtain ⟨w1,hw1⟩:=BR CX;subst hw1;obtain ⟨b',o',hA,hlb,c0⟩:=(HR.out.mono (bT HB0.out B1.out)).int hlt;simp only [JM,Addr.mk.injEq,and_true] at hA;obtain ⟨rfl,rfl⟩:=hA;rw [Hd.out] at c0;have X2:=apo.out
  try clear BU BX Bg CB
  obtain ⟨BU,BX,Bg,CB,-,-,-⟩:=X2.Az;go_upto_region 9 with fail;refine DJ (w1) (.run 5 0 0 (.call 5 63 (.take 6 127 (.done)))) fun CU QR Ae Ah hS=>?_
  iterate 5 refine Aj ?_
  refine Bj ?_;clear hS;intro K hK AQ;go_simp;refine (Kr.out _ (bT (bT HB0.out B1.out) AQ.out)).mono ?_;rintro e CX ⟨A2,c2,rfl,CV,ho2⟩;have hS:Since w1 CX:=bT (w:=w1) AQ.out CV;clear AQ;refine hK.out _ _ hS (fun _=>?_);clear hK K
  try simp only [pu]
  refine Aj ?_;refine DF ?_;clear hS Ah Ae;intro hB;have B2:=AA (bT B1.out hB);obtain ⟨Aq,cq,he,hq1,hq2,U0⟩:=ho2.sl;injection he with e1 e2 e3;subst e1 e3;clear e2;unfold maxLen at hq2;have bK:=AA U0;clear hB ho2 U0 Kr X2 BU BX Bg CB c0 hlb;obtain ⟨W2,hw2⟩:=BR CX;subst hw2;have hst2:=DU.out;rw [HN.out,gu] at hst2;replace DU:=AA hst2;rw [HN.out] at hq1 ⊢;clear hst2;have bJ:=AA (fun j (hj:j+1<=P.length)=>aiD Wj.out j (.inl hj));go_wp2_with fail;go_loopw [5,8] (fun s i wx=>∃ j:Nat,j<=N/\i=.int .i64 ((j:Int)+1)/\s=.int .i64 (n+Jl P j)/\AU W2 wx) (fun _ i _=>N+1-(intOf i).toNat)
  case atStart => exact ⟨0,Bv _,rfl,by simp [Jl],bR W2⟩
  case round =>
   obtain ⟨j,hj,rfl,rfl,hbx⟩:=hrel;have Fv:=AA hbx;clear hbx;by_cases hjl:j<N
   case pos =>
    have hP1:j<P.length:=by have:=HN.out;omega
    have hP2:j+1<P.length:=by have:=HN.out;omega
    obtain ⟨b1,o1,hA1,vP,c0,c1'⟩:=(bK.out.mono Fv.out).pt hP1;subst hA1;obtain ⟨b2,o2,hA2,-,d0,d1⟩:=(bK.out.mono Fv.out).pt hP2;simp only [JM,Addr.mk.injEq,and_true] at hA2;obtain ⟨rfl,rfl⟩:=hA2;have g1:=Wj.out _ (BO hP1);have g2:=Wj.out _ (BO hP2);have x1:=o8 g1.1 g2.2;have x2:=o8 g2.1 g1.2;have tb:=bJ.out j (by have:=HN.out;omega);have hstep:n+Jl P (j+1)=n+Jl P j+P[j].x*P[j+1].y-P[j+1].x*P[j].y:=by
     rw [Jl];unfold Oq;simp only [Fj,Dh hP1,Dh hP2,H9];omega
    have adT:=AA hstep;have hsz:=Un.out;clear hstep g1 g2;generalize P[j]=p1 at *;generalize P[j+1]=p2 at *;generalize hT:Jl P j=T at *;have q1:0<=(j:Int):=by omega
    have q2:(j:Int)<(N:Int)+1:=by omega
    have q3:0<=(j:Int)+1:=by omega
    have q4:(j:Int)+1<(N:Int)+1:=by omega
    have q5:((j:Int)+1).toNat=j+1:=by omega
    have m0:IntKind.i64.wrap (j:Int)=(j:Int):=D6 _ AB;have m1:IntKind.i64.wrap (p1.x*p2.y)=p1.x*p2.y:=D6 _ AB;have m2:IntKind.i64.wrap (p2.x*p1.y)=p2.x*p1.y:=D6 _ AB;have m3:IntKind.i64.wrap (n+T+p1.x*p2.y)=n+T+p1.x*p2.y:=D6 _ AB;have m4:IntKind.i64.wrap (n+T+p1.x*p2.y-p2.x*p1.y)=n+T+p1.x*p2.y-p2.x*p1.y:=D6 _ AB;clear x1 x2 tb hT hub hsz;go_upto_region 13 with fail;refine DJ (wr) (.run 28 0 0 (.done)) fun CU QR Ae Ah hS=>?_
    iterate 28 refine Aj ?_
    refine DF ?_;clear hS Ah Ae;intro hB;have Bx:=AA (bT Fv.out hB);clear hB m0 m1 m2 m3 m4;go_wp2;go_roundw
    case rel => exact ⟨j+1,AB,BJ,by rw [adT.out],Bx.out⟩
    case measure => exact BL
   case neg =>
   have hjj:j=N:=by omega
   subst hjj;have Bx:=AA (bT B2.out Fv.out);clear hub;go_wp2;go_roundw
   case rel => exact ⟨k+1,AB,BJ,by rw [DU.out],Bx.out,PZ.out⟩
   case measure => exact BL
def Yo (F:Int->Int) (K:Nat):Prop:=∀ x,F (pw F x K)=pw F x K
theorem vV {F:Int->Int} {x:Int} {K:Nat} (h:F (pw F x K)=pw F x K) (n:Nat):pw F x (K+n)=pw F x K:=by
 induction n with
 | zero=>rfl
 | succ n ih=>show F (pw F x (K+n))=_;rw [ih,h]
theorem aiL {F:Int->Int} {x:Int} {i j:Nat} (hi:F (pw F x i)=pw F x i) (hj:F (pw F x j)=pw F x j):pw F x i=pw F x j:=by
 rcases Nat.le_total i j with h | h
 ·have:=vV hi (j-i)
  rw [show i+(j-i)=j by omega] at this;exact this.symm
 ·have:=vV hj (i-j)
  rw [show j+(i-j)=i by omega] at this;exact this
theorem Yo.more {F:Int->Int} {K M:Nat} (h:Yo F K) (hm:K<=M):Yo F M:=by
 intro x;have:=vV (h x) (M-K)
 rw [show K+(M-K)=M by omega] at this;rw [this];exact h x
theorem Yo.eq {F:Int->Int} {K M:Nat} (h:Yo F K) (hm:K<=M) (x:Int):pw F x M=pw F x K:=aiL (h.more hm x) (h x)
def Lh (F:Int->Int) (a b:Int) (i:Int):Int:=if i=a then b else F i
theorem aiM {F:Int->Int} {a b x:Int} (n:Nat) (h:∀ j,j<n->pw F x j≠a):pw (Lh F a b) x n=pw F x n:=by
 induction n with
 | zero=>rfl
 | succ n ih =>
  show Lh F a b (pw (Lh F a b) x n)=F (pw F x n)
  rw [ih (fun j hj=>h j AB)];unfold Lh;rw [AX (h n AB)]
theorem aha {P:Nat->Prop} [DecidablePred P] : ∀ n,P n->∃ j,j<=n/\P j/\∀ i,i<j->¬ P i
 | 0,h=>⟨0,Dc _,h,fun i hi=>by omega⟩
 | n+1,h=>by
  by_cases h2:∃ m,m<=n/\P m
  ·obtain ⟨m,hm,hp⟩:=h2;obtain ⟨j,h1,h3,h4⟩:=aha m hp;exact ⟨j,AB,h3,h4⟩
  · exact ⟨n+1,Dc _,h,fun i hi hp=>h2 ⟨i,AB,hp⟩⟩
termination_by n=>n
decreasing_by omega
theorem ahb {F:Int->Int} {K:Nat} (h:Yo F K) {a b:Int} (ha:F a=a) (hb:F b=b) (hne:a≠b) :
  Yo (Lh F a b) (K+1)/\∀ x,pw (Lh F a b) x (K+1)=if pw F x K=a then b else pw F x K:=by
 have hfb:Lh F a b b=b:=by unfold Lh;rw [AX (fun e=>hne e.symm),hb]
 have key:∀ x,pw (Lh F a b) x (K+1)=if pw F x K=a then b else pw F x K:=by
  intro x;by_cases hx:pw F x K=a
  ·rw [AZ hx];obtain ⟨j,h1,h2,h3⟩:=aha (P:=fun j=>pw F x j=a) K hx;have e1:pw (Lh F a b) x j=a:=by rw [aiM j h3];exact h2
   have e2:pw (Lh F a b) x (j+1)=b:=by
    show Lh F a b (pw (Lh F a b) x j)=b
    rw [e1];unfold Lh;rw [AZ rfl]
   have e3:Lh F a b (pw (Lh F a b) x (j+1))=pw (Lh F a b) x (j+1):=by rw [e2];exact hfb
   have:=vV e3 (K-j)
   rw [show j+1+(K-j)=K+1 by omega] at this;rw [this,e2]
  ·rw [AX hx];have hn:∀ j,j<K+1->pw F x j≠a:=by
    intro j hj e;have e2:F (pw F x j)=pw F x j:=by rw [e];exact ha
    exact hx ((aiL (h x) e2).trans e)
   rw [aiM (K+1) hn];exact vV (h x) 1
 refine ⟨fun x=>?_,key⟩;rw [key x];split
 · exact hfb
 ·rename_i hx;unfold Lh;rw [AX hx];exact h x
def YQ (l:List Nd) (i:Int):Int:=if i∈l.map (·.id) then i else 0
theorem apq (l:List Nd):Yo (YQ l) 1:=by
 intro x
 show YQ l (YQ l x)=YQ l x
 unfold YQ;by_cases h:x∈l.map (·.id)
 · rw [AZ h,AZ h]
 · rw [AX h];split<;>rfl
def vW (K:Nat) (s:(Int->Int)×Int) (a:Ar):(Int->Int)×Int :=
 if pw s.1 a.fr K=pw s.1 a.dst K then s else (Lh s.1 (pw s.1 a.fr K) (pw s.1 a.dst K),s.2-1)
def U1 (p:Pl) (k:Nat):(Int->Int)×Int:=(p.AP.take k).foldl (vW (p.AP.length+1)) (YQ p.nodes,(p.nodes.length:Int))
theorem adW (p:Pl) (k:Nat) (hk:k<p.AP.length):U1 p (k+1)=vW (p.AP.length+1) (U1 p k) p.AP[k]:=by
 unfold U1;rw [F7 hk,Oi];rfl
structure apr (p:Pl) (k:Nat) (s:(Int->Int)×Int):Prop where
 flat:Yo s.1 (k+1)
 bd:∀ x,-1073741824<=s.1 x/\s.1 x<=1073741824
 lo:(p.nodes.length:Int)-k<=s.2
 hi:s.2<=p.nodes.length
theorem aps {p:Pl} (h:Valid p) (k:Nat) (hk:k<=p.AP.length):apr p k (U1 p k):=by
 induction k with
 | zero =>
  refine ⟨apq _,fun x=>?_,by simp [U1],by simp [U1]⟩
  show -1073741824<=YQ p.nodes x/\YQ p.nodes x<=1073741824
  unfold YQ;split
  ·rename_i hm;obtain ⟨n,hn,rfl⟩:=ED.1 hm;have:=h.aq8 hn
   omega
  · omega
 | succ k ih =>
  obtain ⟨h1,h2,h3,h4⟩:=ih AB;rw [adW p k AB];generalize U1 p k=s at *;unfold vW;split
  · exact ⟨h1.more AB,h2,AB,h4⟩
  ·rename_i hne;have e1:∀ x,s.1 (pw s.1 x (p.AP.length+1))=pw s.1 x (p.AP.length+1):=h1.more AB;refine ⟨(ahb h1 (e1 _) (e1 _) hne).1,fun x=>?_,by show _<=s.2-1;omega,by show s.2-1<=_;omega⟩
   show -1073741824<=Lh _ _ _ x/\Lh _ _ _ x<=1073741824
   unfold Lh;split
   · rw [<- e1];exact h2 _
   · exact h2 _
def hY (p:Pt):Int:=8388608*p.y+p.x
theorem MS {a b:Pt} (ha:C9 a=true) (hb:C9 b=true) (h:hY a=hY b):a=b:=by
 rw [Qr] at ha hb;unfold hY at h;rw [Pt.ext_iff'];omega
instance (ux uy vx vy:Int):Decidable (OJ ux uy vx vy):=by unfold OJ EZ;infer_instance
instance (o a b:Pt):Decidable (Ef o a b):=by unfold Ef;infer_instance
def NK (a b v:Pt):Int:=if hY a<hY v/\hY v<hY b/\0<tw a b v then 1 else if hY b<hY v/\hY v<hY a/\0<tw b a v then -1 else 0
theorem acf (a b v:Pt):NK b a v=-NK a b v:=by
 unfold NK;by_cases h1:hY a<hY v/\hY v<hY b/\0<tw a b v
 · rw [AZ h1,AX AB,AZ h1]
 ·rw [AX h1];by_cases h2:hY b<hY v/\hY v<hY a/\0<tw b a v
  · rw [AZ h2,AX h1,AZ h2];rfl
  · rw [AX h2,AX h1,AX h2];rfl
def vX (s t v:Pt):Int:=if hY s<hY v/\hY v<hY t/\tw s t v<0 then 1 else 0
theorem ahc (a b s t:Pt):tw a b s*(hY t-hY b)+tw a b t*(hY b-hY s)=-((hY b-hY a)*tw s t b):=by unfold tw hY;grind
theorem ahd (a b s t:Pt):tw a b s*(hY t-hY a)+tw a b t*(hY a-hY s)=-((hY b-hY a)*tw s t a):=by unfold tw hY;grind
theorem vY (a b s t:Pt):tw a b t-tw a b s=tw s t a-tw s t b:=by unfold tw;grind
theorem acg (a b s t:Pt):BM a b s t=tw a b t-tw a b s:=by unfold tw BM;grind
theorem apt (a s t:Pt):BM a s s t=tw s t a:=by unfold tw BM;grind
theorem apu (a b s:Pt):BM a s a b=-tw a b s:=by unfold tw BM;grind
theorem ahe (a b c:Pt):tw a c b=-tw a b c:=by unfold tw;grind
theorem YR (a b:Pt):tw a b a=0:=by unfold tw;grind
theorem YS (a b:Pt):tw a b b=0:=by unfold tw;grind
theorem ahf {a b s t:Pt} (hab:a≠b) (h:ND a b s t=0) (hd:tw a b t-tw a b s≠0) :
  ¬ (tw a b s<=0/\0<=tw a b t/\tw s t b<=0/\0<=tw s t a)/\¬ (0<=tw a b s/\tw a b t<=0/\0<=tw s t b/\tw s t a<=0):=by
 have e:=vY a b s t;unfold ND at h;rw [AX (fun h=>hab h.1),apt a s t,apu a b s,acg a b s t,AX hd] at h;split at h
 ·split at h
  · cases h
  · omega
 ·split at h
  · cases h
  · omega
def MV (a b s t:Pt):Prop:=tw a b t-tw a b s≠0->¬ (tw a b s<=0/\0<=tw a b t/\tw s t b<=0/\0<=tw s t a)/\¬ (0<=tw a b s/\tw a b t<=0/\0<=tw s t b/\tw s t a<=0)
theorem MV.of {a b s t:Pt} (hab:a≠b) (h:ND a b s t=0):MV a b s t:=ahf hab h
theorem MV.comm {a b s t:Pt} (h:MV a b s t):MV s t a b:=by
 intro hd;have e:=vY a b s t;have:=h AB
 omega
theorem MV.flip {a b s t:Pt} (h:MV a b s t):MV b a s t:=by
 intro hd;have e1:tw b a s=-tw a b s:=by unfold tw;grind
 have e2:tw b a t=-tw a b t:=by unfold tw;grind
 have:=h AB
 omega
theorem NU (x:Int) {y z:Int} (h:y<z):(0<x*z-x*y↔0<x)/\(x*z-x*y<0↔x<0):=by
 rw [<- gy];have hp:0<z-y:=by omega
 rcases Ik x 0 with h1 | h1 | h1
 · have:=VQ h1 hp;omega
 · subst h1;simp
 · have:=Jg h1 hp;omega
theorem ahg {a b s t:Pt} (hab:hY a<hY b) (hst:hY s<hY t) (h:MV a b s t) :
  (hY a<hY s->hY s<hY b->hY b<hY t->(0<tw a b s↔tw s t b<0)) /\
  (hY a<hY s->hY t<hY b->(0<tw a b s↔0<tw a b t)) /\
  (hY s<hY a->hY b<hY t->(tw s t a<0↔tw s t b<0)) /\
  (hY s<hY a->hY a<hY t->hY t<hY b->(0<tw a b t↔tw s t a<0)):=by
 have e:=vY a b s t;have i1:=ahc a b s t;have i2:=ahd a b s t;have j1:=ahc s t a b;have j2:=ahd s t a b;have nm:=h;unfold MV at nm;clear h;generalize tw a b s=u1 at *;generalize tw a b t=u2 at *;generalize tw s t a=u3 at *;generalize tw s t b=u4 at *;generalize hY a=A at *;generalize hY b=B at *;generalize hY s=S at *;generalize hY t=T at *;rw [gy,gy,KP (B-A),gy] at i1 i2;rw [gy,gy,KP (T-S),gy] at j1 j2;have g1:=NU u1 hst;have g2:=NU u2 hst;have g3:=NU u3 hab;have g4:=NU u4 hab;refine ⟨fun h1 h2 h3=>?_,fun h1 h2=>?_,fun h1 h2=>?_,fun h1 h2 h3=>?_⟩
 ·have f1:=NU u1 h3;have f2:=NU u2 h2;have f3:=NU u1 (show A<T by omega);have f4:=NU u2 h1;by_cases hd:u2-u1=0
  ·have:u1=u2:=by omega
   subst this;omega
  ·have:=nm hd
   omega
 ·have f1:=NU u1 h2;have f2:=NU u2 (show S<B by omega);have f3:=NU u1 (show A<T by omega);have f4:=NU u2 h1;by_cases hd:u2-u1=0
  · omega
  ·have:=nm hd
   omega
 ·have f1:=NU u3 h2;have f2:=NU u4 (show A<T by omega);have f3:=NU u3 (show S<B by omega);have f4:=NU u4 h1;by_cases hd:u2-u1=0
  · omega
  ·have:=nm hd
   omega
 ·have f1:=NU u1 h3;have f2:=NU u2 (show S<B by omega);have f3:=NU u1 h2;have f4:=NU u2 h1;by_cases hd:u2-u1=0
  ·have:u1=u2:=by omega
   subst this;have f5:=NU u1 (show S<T by omega);omega
  ·have:=nm hd
   omega
theorem ahh {o p:Pt} (ho:C9 o=true) (hp:C9 p=true):EZ (p.x-o.x) (p.y-o.y)↔hY p<hY o:=by
 rw [Qr] at ho hp;unfold EZ hY;omega
theorem oC {o a b:Pt} (ho:C9 o=true) (ha:C9 a=true) (hb:C9 b=true):Ef o a b↔(¬ hY a<hY o/\hY b<hY o)\/((hY a<hY o↔hY b<hY o)/\0<tw o a b):=by
 unfold Ef OJ;rw [ahh ho ha,ahh ho hb];rfl
theorem ahi {a b s t:Pt} (na:C9 a=true) (nb:C9 b=true) (ns:C9 s=true) (nt:C9 t=true) (hab:hY a<hY b) (hst:hY s<hY t)
  (hno:a≠s->a≠t->b≠s->b≠t->MV a b s t) :
  NK a b s+(if a=s/\Ef s b t then 1 else 0)-(if b=s/\Ef s a t then 1 else 0)-(NK a b t-(if a=t/\Ef t s b then 1 else 0)+(if b=t/\Ef t s a then 1 else 0))=vX s t b-vX s t a:=by
 have hne:a≠b:=fun e=>by rw [e] at hab;omega
 have d1:=oC ns nb nt;have d2:=oC ns na nt;have d3:=oC nt ns nb;have d4:=oC nt ns na;have q:∀ {u v:Pt},C9 u=true->C9 v=true->(u=v↔hY u=hY v):=fun hu hv=>⟨fun e=>by rw [e],MS hu hv⟩;have e1:tw s b t=-tw s t b:=ahe s t b;have e2:tw t s a=-tw s t a:=by unfold tw;grind
 have f1:hY a=hY s->tw a b s=0/\tw s t a=0/\tw a b t=-tw s t b:=fun h=>by
  have:=MS na ns h
  subst this;exact ⟨YR a b,YR a t,e1⟩
 have f2:hY b=hY t->tw a b t=0/\tw s t b=0/\tw a b s=-tw s t a:=fun h=>by
  have:=MS nb nt h
  subst this;exact ⟨YS a b,YS s b,by unfold tw;grind⟩
 have f3:hY a≠hY s->hY a≠hY t->hY b≠hY s->hY b≠hY t->_:=fun h1 h2 h3 h4=>ahg (s:=s) (t:=t) hab hst (hno (fun e=>h1 Rt) (fun e=>h2 Rt) (fun e=>h3 Rt) (fun e=>h4 Rt));have k1:(a=s/\Ef s b t)↔(hY a=hY s/\tw s t b<0):=by rw [d1,q na ns,e1];constructor<;>(rintro ⟨h1,h2⟩;exact ⟨h1,AB⟩)
 have k2:¬ (b=s/\Ef s a t):=by rw [d2,q nb ns];rintro ⟨h1,h2⟩;omega
 have k3:¬ (a=t/\Ef t s b):=by rw [d3,q na nt];rintro ⟨h1,h2⟩;omega
 have k4:(b=t/\Ef t s a)↔(hY b=hY t/\tw s t a<0):=by rw [d4,q nb nt,e2];constructor<;>(rintro ⟨h1,h2⟩;exact ⟨h1,AB⟩)
 have m1:NK a b s=if hY a<hY s/\hY s<hY b/\0<tw a b s then 1 else 0:=by unfold NK;rw [AX (show ¬ (hY b<hY s/\hY s<hY a/\0<tw b a s) by omega)]
 have m2:NK a b t=if hY a<hY t/\hY t<hY b/\0<tw a b t then 1 else 0:=by unfold NK;rw [AX (show ¬ (hY b<hY t/\hY t<hY a/\0<tw b a t) by omega)]
 rw [m1,m2,AX k2,AX k3];unfold vX;simp only [k1,k4];clear hno d1 d2 d3 d4 e1 e2 q na nb ns nt hne k1 k2 k3 k4 m1 m2;generalize tw a b s=u1 at *;generalize tw a b t=u2 at *;generalize tw s t a=u3 at *;generalize tw s t b=u4 at *;generalize hY a=A at *;generalize hY b=B at *;generalize hY s=S at *;generalize hY t=T at *;rcases Ik A S with h1 | h1 | h1
 ·clear f1;rcases Ik B S with h3 | h3 | h3
  ·clear f2 f3;rw [AX AB,AX AB,AX AB,AX AB,AX AB,AX AB];rfl
  ·clear f2 f3;rw [AX AB,AX AB,AX AB,AX AB,AX AB,AX AB];rfl
  ·rcases Ik B T with h2 | h2 | h2
   ·have f3:=(f3 AB AB AB AB).1 h1 h3 h2;clear f2;simp only [h1,h3,h2,true_and,f3,show ¬ A=S by omega,show ¬ T<B by omega,show ¬ B=T by omega,show ¬ S<A by omega,false_and,and_false,if_false];omega
   ·obtain ⟨-,-,f2⟩:=f2 h2;clear f3;simp only [h1,h3,h2,true_and,show ¬ A=S by omega,show ¬ S<A by omega,show ¬ T<T by omega,show A<T by omega,hst,false_and,and_false,if_false];split<;>split<;>omega
   ·have f3:=(f3 AB AB AB AB).2.1 h1 h2;clear f2;simp only [h1,h3,h2,true_and,f3,show ¬ A=S by omega,show ¬ S<A by omega,show ¬ B<T by omega,show ¬ B=T by omega,show A<T by omega,false_and,and_false,if_false];omega
 ·obtain ⟨f1a,f1b,f1⟩:=f1 h1;clear f3;subst h1;rcases Ik B T with h2 | h2 | h2
  ·clear f2;simp only [hab,h2,true_and,show ¬ A<A by omega,show ¬ B=T by omega,show ¬ T<B by omega,false_and,and_false,if_false];omega
  ·obtain ⟨f2a,f2b,f2⟩:=f2 h2;subst h2;simp only [hab,true_and,show ¬ A<A by omega,show ¬ B<B by omega,false_and,and_false,if_false];split<;>split<;>omega
  ·clear f2;simp only [hab,hst,h2,true_and,show ¬ A<A by omega,show ¬ B=T by omega,show ¬ B<T by omega,false_and,and_false,if_false];split<;>split<;>omega
 ·clear f1;rcases Ik A T with h3 | h3 | h3
  ·rcases Ik B T with h2 | h2 | h2
   ·have f3:=(f3 AB AB AB AB).2.2.1 h1 h2;clear f2;simp only [h1,h2,h3,true_and,f3,show ¬ A<S by omega,show ¬ A=S by omega,show ¬ T<B by omega,show ¬ B=T by omega,show S<B by omega,false_and,and_false,if_false];omega
   ·clear f2 f3;subst h2;simp only [h1,h3,hst,true_and,show ¬ A<S by omega,show ¬ A=S by omega,show ¬ B<B by omega,false_and,and_false,if_false];omega
   ·have f3:=(f3 AB AB AB AB).2.2.2 h1 h3 h2;clear f2;simp only [h1,h2,h3,true_and,f3,show ¬ A<S by omega,show ¬ A=S by omega,show ¬ B<T by omega,show ¬ B=T by omega,false_and,and_false,if_false];omega
  ·clear f2 f3;rw [AX AB,AX AB,AX AB,AX AB,AX AB,AX AB];rfl
  ·clear f2 f3;rw [AX AB,AX AB,AX AB,AX AB,AX AB,AX AB];rfl
section
variable {α β:Type}
theorem Hu (l:List α) (f g:α->Int) (h:∀ x∈l,f x=g x):(l.map f).sum=(l.map g).sum:=by rw [aAD h]
theorem Wv (l:List α) (f:α->Int) (h:∀ x∈l,f x=0):(l.map f).sum=0:=by
 induction l with
 | nil=>rfl
 | cons a l ih=>rw [FM,IJ,h a Ak,ih (fun x hx=>h x (by simp [hx]))];rfl
theorem Sz (l:List α) (f g:α->Int):(l.map fun x=>f x+g x).sum=(l.map f).sum+(l.map g).sum:=by
 induction l with
 | nil=>rfl
 | cons a l ih=>simp only [FM,IJ,ih];omega
theorem Uo (l:List α) (f:α->Int):(l.map fun x=>-f x).sum=-(l.map f).sum:=by
 induction l with
 | nil=>rfl
 | cons a l ih=>simp only [FM,IJ,ih];omega
theorem YT (l:List α) (c:Int) (f:α->Int):(l.map fun x=>c*f x).sum=c*(l.map f).sum:=by
 induction l with
 | nil=>simp
 | cons a l ih=>simp only [FM,IJ,ih,aar]
theorem ahj (l:List α) (m:List β) (f:α->β->Int):(l.map fun x=>(m.map fun y=>f x y).sum).sum=(m.map fun y=>(l.map fun x=>f x y).sum).sum:=by
 induction l with
 | nil=>simp only [QD,YH];rw [Wv m _ (fun _ _=>rfl)]
 | cons a l ih=>simp only [FM,IJ,ih];rw [Sz]
theorem xZ (n j:Nat) (f:Nat->Int) (h:∀ k,k<n->k≠j->f k=0):((List.range n).map f).sum=if j<n then f j else 0:=by
 induction n with
 | zero=>rfl
 | succ n ih =>
  rw [Zr,GI,O7,ih (fun k hk=>h k AB)];simp only [FM,QD,IJ,YH,iC];by_cases hj:j=n
  · subst hj;rw [AX AB,AZ AB];omega
  ·rw [h n AB (fun e=>hj e.symm)];by_cases h2:j<n
   · rw [AZ h2,AZ AB];omega
   · rw [AX h2,AX AB];rfl
theorem sumT (n:Nat) (R:Nat->Int):((List.range n).map fun k=>R (k+1)-R k).sum=R n-R 0:=by
 induction n with
 | zero=>simp
 | succ n ih =>
  rw [Zr,GI,O7,ih];simp only [FM,QD,IJ,YH];omega
theorem xg (l:List α) (k:α->Int) (hk:(l.map k).Pairwise (· < ·)) (r:Int->Int) (x:Int) (hx:∃ y∈l,k y=x):(l.map fun y=>if x=k y then r (k y) else 0).sum=r x:=by
 induction l with
 | nil=>obtain ⟨y,hy,-⟩:=hx;cases hy
 | cons a l ih =>
  rw [FM,JL] at hk;rw [FM,IJ];by_cases e:x=k a
  · rw [AZ e,Wv l _ (fun y hy=>AX (fun e2=>by have:=hk.1 (k y) (Gh hy);omega)),e];omega
  ·rw [AX e,ih hk.2 (by
    obtain ⟨y,hy,e2⟩:=hx;rcases EW.1 hy with rfl | hy
    · exact absurd e2.symm e
    · exact ⟨y,hy,e2⟩)]
   omega
end
def J4 (f:Pt->Pt->Int) (l:List Pt):Int:=((List.range (l.length-1)).map fun k=>f (l.getD k AY) (l.getD (k+1) AY)).sum
def Dn (p:Pl) (z:Int->Int) (f:Pt->Pt->Int):Int:=(p.AP.map fun a=>z a.id*J4 f (AV p a)).sum
theorem jE (p:Pl) (z:Int->Int) (f g:Pt->Pt->Int):Dn p z (fun a b=>f a b+g a b)=Dn p z f+Dn p z g:=by
 unfold Dn J4;rw [<- Sz];exact Hu _ _ _ fun a _=>by rw [Sz,aar]
theorem ahk (p:Pl) (z:Int->Int) (f:Pt->Pt->Int):Dn p z (fun a b=>-f a b)=-Dn p z f:=by
 unfold Dn J4;rw [<- Uo];exact Hu _ _ _ fun a _=>by rw [Uo,aAE]
theorem ahl (p:Pl) (z:Int->Int) (f g:Pt->Pt->Int):Dn p z (fun a b=>f a b-g a b)=Dn p z f-Dn p z g:=by
 have:=jE p z f (fun a b=>-g a b)
 rw [ahk] at this;simp only [<- aas] at this;exact this
theorem xk {p:Pl} {z:Int->Int} {f g:Pt->Pt->Int} (h:∀ a∈p.AP,∀ k,k+1<(AV p a).length->f ((AV p a).getD k AY) ((AV p a).getD (k+1) AY)=g ((AV p a).getD k AY) ((AV p a).getD (k+1) AY)):Dn p z f=Dn p z g:=by
 unfold Dn J4;refine Hu _ _ _ fun a ha=>?_;congr 1;exact Hu _ _ _ fun k hk=>h a ha k aAU
def Fz (p:Pl) (z:Int->Int):Prop:=∀ n∈p.nodes,(p.AP.map fun a=>z a.id*((if a.dst=n.id then 1 else 0)-(if a.fr=n.id then 1 else 0))).sum=0
theorem Wx (p:Pl) (a:Ar):(AV p a).getD ((AV p a).length-1) AY=nodeAt p a.dst:=by
 rw [Ey];unfold AV
 show (nodeAt p a.fr::(a.via++[nodeAt p a.dst])).getD (a.via.length+1) AY=_
 rw [aaw,Fj,List.getElem?_append_right AB];simp
section
variable {p:Pl} (h:Valid p)
include h
theorem Valid.ahm {z:Int->Int} (hz:Fz p z) (r:Int->Int):(p.AP.map fun a=>z a.id*(r a.dst-r a.fr)).sum=0:=by
 have e:(p.AP.map fun a=>z a.id*(r a.dst-r a.fr)).sum=(p.AP.map fun a=>(p.nodes.map fun n=>r n.id*(z a.id*((if a.dst=n.id then 1 else 0)-(if a.fr=n.id then 1 else 0)))).sum).sum:=by
  refine Hu _ _ _ fun a ha=>?_;obtain ⟨n1,h1,e1,-⟩:=h.sound.Xk ha;obtain ⟨n2,h2,e2,-⟩:=h.sound.Yj ha;have s1:=xg p.nodes (·.id) h.sound.nodes r a.fr ⟨n1,h1,e1⟩;have s2:=xg p.nodes (·.id) h.sound.nodes r a.dst ⟨n2,h2,e2⟩;rw [<- s1,<- s2,aas,<- Uo,<- Sz,<- YT];refine Hu _ _ _ fun n _=>?_;by_cases c1:a.dst=n.id<;>by_cases c2:a.fr=n.id<;>simp only [c1,c2,if_true,if_false]<;>grind
 rw [e,ahj];refine Wv _ _ fun n hn=>?_;rw [YT,hz n hn,KQ]
theorem Valid.oD {z:Int->Int} (hz:Fz p z) (R:Pt->Int):Dn p z (fun a b=>R b-R a)=0:=by
 rw [<- h.ahm hz (fun i=>R (nodeAt p i))];unfold Dn J4;refine Hu _ _ _ fun a _=>?_;rw [sumT ((AV p a).length-1) (fun k=>R ((AV p a).getD k AY)),Wx,Wp]
theorem Valid.ach {a b:Ar} (ha:a∈p.AP) (hb:b∈p.AP) {k m:Nat} (hk:k+1<(AV p a).length) (hm:m+1<(AV p b).length)
  (h1:(AV p a).getD k AY≠(AV p b).getD m AY) (h2:(AV p a).getD k AY≠(AV p b).getD (m+1) AY) (h3:(AV p a).getD (k+1) AY≠(AV p b).getD m AY) (h4:(AV p a).getD (k+1) AY≠(AV p b).getD (m+1) AY) :
  MV ((AV p a).getD k AY) ((AV p a).getD (k+1) AY) ((AV p b).getD m AY) ((AV p b).getD (m+1) AY):=by
 have YU:∀ {c d:Ar} {i j:Nat},c∈p.AP->d∈p.AP->i+1<(AV p c).length->j+1<(AV p d).length->EN [(AV p c).getD i AY,(AV p c).getD (i+1) AY,(AV p d).getD j AY,(AV p d).getD (j+1) AY]=true:=fun hc hd hi hj =>
  Yk (h.Dj hc AB) (h.Dj hc hi) (h.Dj hd AB) (h.Dj hd hj)
 have same:∀ {i j:Nat},i<j->j+1<(AV p a).length->(AV p a).getD i AY≠(AV p a).getD (j+1) AY->(AV p a).getD (i+1) AY≠(AV p a).getD j AY->MV ((AV p a).getD i AY) ((AV p a).getD (i+1) AY) ((AV p a).getD j AY) ((AV p a).getD (j+1) AY):=by
  intro i j hij hj n1 n2;have hap:=h.Ri.2.1 a ha i j hij hj;unfold SE DY at hap;simp only at hap;rw [AX] at hap
  ·rw [beq_iff_eq] at hap;unfold Fq at hap;rw [AZ (YU ha ha AB hj)] at hap;exact MV.of (h.distinct ha (k:=i) AB).1 hap
  ·rintro (e | ⟨e1,e2,e3⟩)
   · subst e;exact n2 rfl
   ·subst e1;apply n1;have hl:=Wx p a;rw [show (AV p a).length-1=j+1 by omega] at hl;rw [hl,Wp,e3]
 by_cases hab:a=b
 ·subst hab;rcases PN k m with hkm | hkm | hkm
  · exact same hkm hm h2 h3
  · subst hkm;exact absurd rfl h1
  · exact (same hkm hk (fun e=>h3 e.symm) (fun e=>h2 e.symm)).comm
 ·have other:∀ {c d:Ar} {i j:Nat},c∈p.AP->d∈p.AP->i+1<(AV p c).length->j+1<(AV p d).length->PG p (DY p c i) (DY p d j)=true ->
    (AV p c).getD i AY≠(AV p d).getD j AY->(AV p c).getD i AY≠(AV p d).getD (j+1) AY->(AV p c).getD (i+1) AY≠(AV p d).getD j AY->(AV p c).getD (i+1) AY≠(AV p d).getD (j+1) AY ->
    MV ((AV p c).getD i AY) ((AV p c).getD (i+1) AY) ((AV p d).getD j AY) ((AV p d).getD (j+1) AY):=by
   intro c d i j hc hd hi hj hjo n1 n2 n3 n4;unfold PG at hjo;split at hjo
   ·exfalso;obtain ⟨n,hn,hat⟩:=OC.1 hjo;unfold PE at hat;simp only [Ei] at hat;have at_end:∀ {c:Ar} {i:Nat},c∈p.AP->i+1<(AV p c).length->LZ (DY p c i).a (DY p c i).b n.pt=true->(AV p c).getD i AY=n.pt\/(AV p c).getD (i+1) AY=n.pt:=by
     intro c i hc hi ho;rcases h.oh hc hi hn ho with ⟨e1,e2⟩ | ⟨e1,e2⟩
     · left;subst e1;rw [Wp,e2];exact h.sound.QN hn
     ·right;have hl:=Wx p c;rw [Ey,show c.via.length+2-1=i+1 by omega] at hl;rw [hl,e2];exact h.sound.QN hn
    rcases at_end hc hi hat.1.2 with e1 | e1<;>rcases at_end hd hj hat.2 with e2 | e2
    · exact n1 (e1.trans e2.symm)
    · exact n2 (e1.trans e2.symm)
    · exact n3 (e1.trans e2.symm)
    · exact n4 (e1.trans e2.symm)
   ·rw [beq_iff_eq] at hjo;unfold Fq DY at hjo;rw [AZ (YU hc hd hi hj)] at hjo;exact MV.of (h.distinct hc hi).1 hjo
  have hpw:=h.Ri.2.2;obtain ⟨i,hi,rfl⟩:=EF.1 ha;obtain ⟨j,hj,rfl⟩:=EF.1 hb;rw [Fa] at hpw;rcases PN i j with hij | hij | hij
  · exact other ha hb hk hm (hpw i j hi hj hij k hk m hm) h1 h2 h3 h4
  · subst hij;exact absurd rfl hab
  · exact (other hb ha hm hk (hpw j i hj hi hij m hm k hk) (fun e=>h1 e.symm) (fun e=>h3 e.symm) (fun e=>h2 e.symm) (fun e=>h4 e.symm)).comm
end
def aB2 (p:Pl) (a:Ar):Prop:=(∀ k,k+1<(AV p a).length->QK p (DY p a k)=true)/\(∀ k m,k<m->m+1<(AV p a).length->SE (DY p a k) (DY p a m)=true)
def ahn (p:Pl) (a b:Ar):Prop:=∀ k,k+1<(AV p a).length->∀ m,m+1<(AV p b).length->PG p (DY p a k) (DY p b m)=true
theorem aci {p:Pl} {a:Ar} {s:Sg}:s∈Jv a (AV p a)↔∃ k,k+1<(AV p a).length/\s=DY p a k:=by
 unfold Jv;rw [ED];constructor
 · rintro ⟨k,hk,rfl⟩;have:=Et.1 hk;exact ⟨k,AB,rfl⟩
 · rintro ⟨k,hk,rfl⟩;exact ⟨k,Et.2 AB,rfl⟩
theorem aho (p:Pl) (hs:(p.AP.map (·.id)).Pairwise (· < ·)):MP p=true↔(∀ a∈p.AP,aB2 p a)/\p.AP.Pairwise (ahn p):=by
 rw [I5] at hs;unfold MP;rw [aBS];unfold UK;rw [sO];constructor
 ·rintro ⟨h1,h2,h3⟩;refine ⟨fun a ha=>⟨fun k hk=>h1 _ (Gf.2 ⟨a,ha,oZ hk⟩),fun k m hkm hm=>?_⟩,?_⟩
  ·have h4:=h2 a ha;unfold Jv at h4;rw [I5,Fa] at h4;have h5:=h4 k m (by rw [PO];omega) (by rw [PO];omega) hkm;simp only [List.getElem_range] at h5;unfold NG at h5;rw [AZ rfl] at h5;exact h5
  ·refine (hs.and h3).imp ?_;rintro a b ⟨hlt,h4⟩ k hk m hm;have h5:=h4 _ (oZ hk) _ (oZ hm);unfold NG at h5;rw [AX (show ¬ (DY p a k).arc.id=(DY p b m).arc.id from fun e=>by have e':a.id=b.id:=e;omega)] at h5;exact h5
 ·rintro ⟨h1,h2⟩;refine ⟨fun s hs'=>?_,fun a ha=>?_,?_⟩
  ·obtain ⟨a,ha,hs'⟩:=Gf.1 hs';obtain ⟨k,hk,rfl⟩:=aci.1 hs';exact (h1 a ha).1 k hk
  ·unfold Jv;rw [I5,Fa];intro k m hk hm hkm;simp only [List.getElem_range];rw [PO] at hm;unfold NG;rw [AZ rfl];exact (h1 a ha).2 k m hkm AB
  ·refine (hs.and h2).imp ?_;rintro a b ⟨hlt,h4⟩ s hs1 t ht;obtain ⟨k,hk,rfl⟩:=aci.1 hs1;obtain ⟨m,hm,rfl⟩:=aci.1 ht;unfold NG;rw [AX (show ¬ (DY p a k).arc.id=(DY p b m).arc.id from fun e=>by have e':a.id=b.id:=e;omega)];exact h4 k hk m hm
theorem all_map' {α:Type} (l:List α) (f:α->Bool):l.all f=(l.map f).all id:=by rw [XJ];rfl
theorem any_map' {α:Type} (l:List α) (f:α->Bool):l.any f=(l.map f).any id:=by rw [gZ];rfl
theorem apv (l:List Pt):UJ l=false↔l.Pairwise (·≠·):=by
 constructor
 ·intro h;rw [Fa];intro i j hi hj hij e;have:=ac6 l j i hij hj e.symm
  rw [h] at this
  cases this
 ·intro h;rw [Fa] at h;exact ac7 l fun j k hk hj e=>h k j AB hj hk e.symm
section
variable {p:Pl} (h:Valid p)
include h
end
