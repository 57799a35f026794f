import Derived.Test.YtialfdomhoojiaaGreatJ10
set_option linter.unusedSimpArgs false
set_option linter.unusedVariables false
set_option maxRecDepth 100000
set_option maxHeartbeats 8000000
namespace Go.Proofs.YtialfdomhoojiaaGreat
open Go.RowKit
theorem Valid.short {p:Pl} (h:Valid p):Short p:=fun a ha=>by have:=h.FT ha;omega
theorem Short.long {p:Pl} (h:Short p):Jh p:=fun a ha=>by have:=h a ha;omega
theorem Valid.aal {p:Pl} (h:Valid p) {d:Int} {a:Ar} (e:iK p d=some a):pathOf p (iJ d)=some (au p a):=by
 obtain ⟨ha,hi⟩:=Qx e;rw [hi];exact h.sound.path ha
theorem ams (d:Int):max d (-d)=iJ d:=by unfold iJ;split<;>omega
theorem amu {p:Pl} {l:List Int} {k:Nat} (hk:k<l.length) {a:Ar} (e:iK p l[k]=some a):qo p l (k+1)=qo p l k+(if 0<l[k] then uM (au p a) else -uM (au p a)):=by
 have:l.getD k 0=l[k]:=by rw [avT,avG hk];rfl
 rw [qo,this];unfold BF;rw [e]
theorem afd {p:Pl} {l:List Int} {k:Nat} (hk:k<l.length) (e:iK p l[k]=none):BG p l=0:=by
 unfold BG;rw [if_neg];rintro ⟨-,h⟩;have:=h _ (avF hk)
 rw [e] at this;cases this
theorem afe {p:Pl} {l:List Int} (hl:l.length<=512) (h:∀ j (hj:j<l.length),j<l.length->(iK p l[j]).isSome=true):BG p l=qo p l l.length:=by
 unfold BG;rw [if_pos];refine ⟨hl,fun d hd=>?_⟩;obtain ⟨j,hj,rfl⟩:=avI.1 hd;exact h j hj hj
theorem amv (v u:Value) (p:Pl) (l:List Int) (w:World) (h:bQ w v p) (hu:Ints w u l) (hv:Valid p) (hw:∀ d∈l,eU d) :
  Calls Tryz.prog 120 #[v,u] w fun e w'=>e=.returned (.int .i64 (BG p l))/\Below w.heap.size w w':=by
 have HA:=avE (fun d (hd:eU d) W (hW:Below w.heap.size w W)=>ae7 v p d W (h.mono hW) hv.short.long hd);have HP:=avE (fun id W (hW:Below w.heap.size w W)=>Nz v p id W (h.mono hW) hv.short);obtain ⟨_,_,_,al,rfl,hpa,⟨An,cn,rfl,-⟩,⟨⟨Aa,ca,rfl,-⟩,-⟩,⟨Af,cf,rfl,-⟩⟩:=h;obtain ⟨Al,cl,rfl,hl1,hl2,hR⟩:=hu;unfold maxLen at hl2;have HR:=avE hR;have HV:=avE hv;have HW:=avE hw;generalize al.length=na at *;generalize p.nodes.length=nn at *;generalize p.faces.length=nf at *;obtain ⟨q,hq⟩:∃ q,BG p l=q:=⟨_,rfl⟩;rw [hq];have Hq:=avE hq;clear hpa hR hv hw hq;go_enter Tryz.func120,Tryz.ntmps120;by_cases hbig:512<l.length
 case pos =>
  have hbig':512<(l.length:Int):=by omega
  have hf:q=0:=by rw [<- Hq.out];unfold BG;rw [if_neg Pe]
  subst hf;go_wp2;go_ret;exact ⟨rfl,bA (bR w) _⟩
 have hbig':¬ 512<(l.length:Int):=by omega
 go_wp2_with fail;obtain ⟨W0,hW⟩:∃ W0:World,W0=w.alloc (.cells #[.slice An nn cn,.slice Aa na ca,.slice Af nf cf] 26):=⟨_,rfl⟩;have HB0:=avE (show Below w.heap.size w W0 by rw [hW];exact bA (bR w) _);have dh:=avE (show ah W0 w.heap.size 26 #[.slice An nn cn,.slice Aa na ca,.slice Af nf cf] by rw [hW];exact ah.made rfl _ _);rw [<- hW];clear hW;go_loopw [4,18] (fun n i wr=>∃ k:Nat,k<=l.length/\i=.int .i64 k/\n=.int .i64 (qo p l k)/\Below W0.heap.size W0 wr/\∀ j (hj:j<l.length),j<k->(iK p l[j]).isSome=true) (fun _ i _=>l.length-(intOf i).toNat)
 case atStart => exact ⟨0,avK _,rfl,rfl,bR W0,fun _ _ h=>by omega⟩
 case round =>
  obtain ⟨k,hk,rfl,rfl,hb,hno⟩:=hrel;have Hb:=avE hb;have Hno:=avE hno;have X2:=dh.out.keep hb;clear hb hno;obtain ⟨aG,aI,aJ,aO,-,-,-⟩:=X2.aF;by_cases hlt:k<l.length
  case neg =>
   have hkk:k=l.length:=by omega
   subst hkk;have hf:=afe (p:=p) (l:=l) Pe Hno.out;rw [Hq.out] at hf;have HF:=avE hf;clear hf;go_wp2;go_ret;exact ⟨dL HF.out.symm,bT HB0.out Hb.out⟩
  obtain ⟨b,o,rfl,hlb,c0⟩:=(HR.out.mono (bT HB0.out Hb.out)).int hlt;have hwd:=HW.out _ (avF hlt);have pO:=avE (HA.out l[k] hwd)
  cases har:iK p l[k] with
  | none =>
   rw [har] at pO;have hf:=afd hlt har;rw [Hq.out] at hf;subst hf;clear har hwd;go_wp2_with fail;refine (pO.out _ (bT HB0.out Hb.out)).mono ?_;rintro e w1 ⟨A1,n1,c1,rfl,hb1⟩;have B1:=avE (bT Hb.out hb1);clear hb1;simp only [Option.isSome_none];go_wp2;go_ret;exact ⟨rfl,bT HB0.out (bA B1.out _)⟩
  | some a =>
  rw [har] at pO;have hst:=amu hlt har;have hpo:=HV.out.aal har;have ha:=(Qx har).1;have hpl:=ig p a;have hvl:=HV.out.FT ha;have Qy:=avE (fun k hk=>HV.out.afa ha k hk);have hub:=HV.out.afb l k;have hne:l[k]≠-9223372036854775808/\l[k]≠0:=by
   constructor
   · intro e;rw [e] at har;unfold iK at har;rw [if_pos (.inr rfl)] at har;cases har
   · intro e;rw [e] at har;unfold iK at har;rw [if_pos (.inl rfl)] at har;cases har
  have hbd:=Qw hwd;have kM:=avE (HP.out (max l[k] (-l[k])));have hpm:pathOf p (max l[k] (-l[k]))=some (au p a):=by rw [ams];exact hpo
  rw [hpm] at kM;unfold Kq at kM;simp only [avU,Option.isSome_some,if_true] at kM;have fU:=avE hst;have HSo:=avE (show (iK p l[k]).isSome=true by rw [har];rfl);have oD:=avE (all_succ (p:=fun d=>(iK p d).isSome=true) Hno.out hlt HSo.out);have hk1:IntKind.i64.wrap (-l[k])=-l[k]:=avS _ Pe;have Di:=avE (fun q (hq:q∈au p a)=>HV.out.Vj ha hq);have oQ:=avE (Qy.out ((au p a).length-1) Pe);have Qz:=avE hne;have yj:=avE (show k+1<=512 by omega);clear hst hpo har hwd hpm hne hbd;unfold uM at fU;generalize qo p l k=n at *;generalize hP:au p a=P at *;generalize l[k]=d at *;generalize a.via.length=vl at *;go_wp2_with fail;refine (pO.out _ (bT HB0.out Hb.out)).mono ?_;rintro e w1 ⟨A1,n1,c1,rfl,hb1⟩;replace X2:=X2.keep hb1;have B1:=avE (bT Hb.out hb1);clear hb1 aG aI aJ aO pO c0 hlb;simp only [Option.isSome_some,avU]
  try clear aG
  try clear aI
  try clear aJ
  try clear aO
  obtain ⟨aG,aI,aJ,aO,-,-,-⟩:=X2.aF;go_wp2_with fail;refine (kM.out _ (bT HB0.out (bA B1.out _))).mono ?_;rintro e w2 ⟨A2,c2,rfl,hb2,ho2⟩;have B2:=avE (bT (bA B1.out _) hb2);obtain ⟨Aq,cq,he,hq1,hq2,zA⟩:=ho2.sl;injection he with e1 e2 e3;subst e1 e3;clear e2;unfold maxLen at hq2;have Jj:=avE zA;clear hb2 ho2 zA kM X2 aG aI aJ aO;obtain ⟨N,hN⟩:∃ N,P.length=N+1:=⟨P.length-1,by omega⟩;have HN:=avE hN;have hNs:N<=65:=by omega
  rw [hN] at oQ fU;simp only [Nat.add_sub_cancel] at oQ fU;have k2:IntKind.i64.wrap (N:Int)=(N:Int):=avS _ Pe;rw [hN] at hq1 ⊢;clear hN hpl hvl;go_wp2_with fail;obtain ⟨W2,rfl⟩:∃ W2:World,W2=w2:=⟨_,rfl⟩;go_loopw [11,44] (fun s i wx=>∃ j:Nat,j<=N/\i=.int .i64 j/\s=.int .i64 (lU P j)/\Below W2.heap.size W2 wx) (fun _ i _=>N-(intOf i).toNat)
  case atStart => exact ⟨0,avK _,rfl,rfl,bR W2⟩
  case round =>
   obtain ⟨j,hj,rfl,rfl,hbx⟩:=hrel;have iR:=avE hbx;clear hbx;by_cases hjl:j<N
   case pos =>
    have hP1:j<P.length:=by have:=HN.out;omega
    have hP2:j+1<P.length:=by have:=HN.out;omega
    obtain ⟨b1,o1,hA1,N9,c0,c1'⟩:=(Jj.out.mono iR.out).pt hP1;subst hA1;obtain ⟨b2,o2,hA2,-,d0,d1⟩:=(Jj.out.mono iR.out).pt hP2;simp only [Option.some.injEq,Addr.mk.injEq,and_true] at hA2;obtain ⟨rfl,rfl⟩:=hA2;have g1:=Di.out _ (avF hP1);have g2:=Di.out _ (avF hP2);have x1:=N8 g1.1 g2.2;have x2:=N8 g2.1 g1.2;have tb:=Qy.out j (by have:=HN.out;omega);have tb2:=Qy.out (j+1) (by have:=HN.out;omega);have hstep:lU P (j+1)=lU P j+(P[j].x*P[j+1].y-P[j+1].x*P[j].y):=by
     rw [lU];unfold rJ;simp only [avT,avG hP1,avG hP2,avU]
    rw [hstep] at tb2;have Jk:=avE hstep;clear hstep g1 g2;generalize P[j]=p1 at *;generalize P[j+1]=p2 at *;generalize hT:lU P j=T at *;have q1:0<=(j:Int):=by omega
    have q2:(j:Int)<(N:Int)+1:=by omega
    have q3:0<=(j:Int)+1:=by omega
    have q4:(j:Int)+1<(N:Int)+1:=by omega
    have q5:((j:Int)+1).toNat=j+1:=by omega
    have m0:IntKind.i64.wrap ((j:Int)+1)=(j:Int)+1:=avS _ Pe;have m1:IntKind.i64.wrap (p1.x*p2.y)=p1.x*p2.y:=avS _ Pe;have m2:IntKind.i64.wrap (p2.x*p1.y)=p2.x*p1.y:=avS _ Pe;have m3:IntKind.i64.wrap (p1.x*p2.y-p2.x*p1.y)=p1.x*p2.y-p2.x*p1.y:=avS _ Pe;have m4:IntKind.i64.wrap (T+(p1.x*p2.y-p2.x*p1.y))=T+(p1.x*p2.y-p2.x*p1.y):=avS _ Pe;clear x1 x2 tb tb2 hT hub;go_upto_region 16 with fail;refine dH (wr) (.run 28 0 0 (.done)) fun bZ QR aB aH hS=>?_
    iterate 28 refine aC ?_
    refine dB ?_;clear hS aH aB;intro hB;have Bx:=avE (bT iR.out hB);clear hB m0 m1 m2 m3 m4;go_wp2;go_roundw
    case rel => exact ⟨j+1,by omega,by go_num,by rw [Jk.out],Bx.out⟩
    case measure => simp [intOf];omega
   case neg =>
   have hjj:j=N:=by omega
   subst hjj;have htl:=oQ.out;have hsz:=yj.out;have Bx:=avE (bT B2.out iR.out);generalize hT:lU P j=T at *;clear hT;by_cases hneg:d<0
   ·have hst:=fU.out;rw [if_neg Pe] at hst;have aam:=avE hst;have m1:IntKind.i64.wrap (-T)=-T:=avS _ Pe;have m2:IntKind.i64.wrap (n + -T)=n + -T:=avS _ Pe;clear hst htl hub hsz;go_wp2;go_roundw
    case rel => exact ⟨k+1,by omega,by go_num,by rw [aam.out],Bx.out,oD.out⟩
    case measure => simp [intOf];omega
   ·have hst:=fU.out;rw [if_pos (by have:=Qz.out.2;omega)] at hst;have aam:=avE hst;have m2:IntKind.i64.wrap (n+T)=n+T:=avS _ Pe;clear hst htl hub hsz;go_wp2;go_roundw
    case rel => exact ⟨k+1,by omega,by go_num,by rw [aam.out],Bx.out,oD.out⟩
    case measure => simp [intOf];omega
theorem QA {p:Pl} (h:Valid p) {d:Int} {a:Ar} (e:iK p d=some a):zy p d=if 0<d then au p a else (au p a).reverse:=by
 have hpo:=h.aal e;unfold iJ at hpo;unfold zy;by_cases h1:0<d
 ·rw [if_neg Pe] at hpo;rw [if_pos h1,if_pos h1,hpo];rfl
 ·have hne:d≠0:=by
   intro e0;rw [e0] at e;unfold iK at e;rw [if_pos (.inl rfl)] at e;cases e
  rw [if_pos Pe] at hpo;rw [if_neg h1,if_neg h1,hpo];rfl
theorem amw {p:Pl} (h:Valid p) {d:Int} {a:Ar} (e:iK p d=some a):BF p d=uM (zy p d):=by
 rw [QA h e];unfold BF;rw [e];simp only [];have hl:=ig p a;split
 · rfl
 · rw [aml _ Pe]
theorem aan (v u:Value) (p:Pl) (l:List Int) (w:World) (h:bQ w v p) (hu:Ints w u l) (hv:Valid p) (hw:∀ d∈l,eU d) :
  Calls Tryz.prog 132 #[v,u] w fun e w'=>e=.returned (.int .i64 (BG p l))/\Below w.heap.size w w':=by
 have HO:=avE (fun d W (hW:Below w.heap.size w W)=>amj v p d W (h.mono hW));have HP:=avE (fun d (hd:-9223372036854775808<d/\d<=9223372036854775807) W (hW:Below w.heap.size w W)=>afc v p d W (h.mono hW) hv.short hd);obtain ⟨_,_,_,al,rfl,hpa,⟨An,cn,rfl,-⟩,⟨⟨Aa,ca,rfl,-⟩,-⟩,⟨Af,cf,rfl,-⟩⟩:=h;obtain ⟨Al,cl,rfl,hl1,hl2,hR⟩:=hu;unfold maxLen at hl2;have HR:=avE hR;have HV:=avE hv;have HW:=avE hw;generalize al.length=na at *;generalize p.nodes.length=nn at *;generalize p.faces.length=nf at *;obtain ⟨q,hq⟩:∃ q,BG p l=q:=⟨_,rfl⟩;rw [hq];have Hq:=avE hq;clear hpa hR hv hw hq;go_enter Tryz.func132,Tryz.ntmps132;by_cases hbig:512<l.length
 case pos =>
  have hbig':512<(l.length:Int):=by omega
  have hf:q=0:=by rw [<- Hq.out];unfold BG;rw [if_neg Pe]
  subst hf;go_wp2;go_ret;exact ⟨rfl,bA (bR w) _⟩
 have hbig':¬ 512<(l.length:Int):=by omega
 go_wp2_with fail;obtain ⟨W0,hW⟩:∃ W0:World,W0=w.alloc (.cells #[.slice An nn cn,.slice Aa na ca,.slice Af nf cf] 26):=⟨_,rfl⟩;have HB0:=avE (show Below w.heap.size w W0 by rw [hW];exact bA (bR w) _);have dh:=avE (show ah W0 w.heap.size 26 #[.slice An nn cn,.slice Aa na ca,.slice Af nf cf] by rw [hW];exact ah.made rfl _ _);rw [<- hW];clear hW;go_loopw [5,6] (fun n i wr=>∃ k:Nat,k<=l.length/\i=.int .i64 k/\n=.int .i64 (qo p l k)/\Below W0.heap.size W0 wr/\∀ j (hj:j<l.length),j<k->(iK p l[j]).isSome=true) (fun _ i _=>l.length-(intOf i).toNat)
 case atStart => exact ⟨0,avK _,rfl,rfl,bR W0,fun _ _ h=>by omega⟩
 case round =>
  obtain ⟨k,hk,rfl,rfl,hb,hno⟩:=hrel;have Hb:=avE hb;have Hno:=avE hno;have aff:=avE (dh.out.keep hb);have X2:=aff.out;clear hb hno;obtain ⟨aG,aI,aJ,aO,-,-,-⟩:=X2.aF;by_cases hlt:k<l.length
  case neg =>
   have hkk:k=l.length:=by omega
   subst hkk;have hf:=afe (p:=p) (l:=l) Pe Hno.out;rw [Hq.out] at hf;have HF:=avE hf;clear hf;go_wp2;go_ret;exact ⟨dL HF.out.symm,bT HB0.out Hb.out⟩
  have jW:=avE (bT HB0.out Hb.out);obtain ⟨b,o,rfl,hlb,c0⟩:=(HR.out.mono jW.out).int hlt;have hwd:=HW.out _ (avF hlt);have hok:=HV.out.amq (Qw hwd);have Jl:=HO.out l[k];unfold N7 at Jl;rw [hok] at Jl;have q1:0<=(k:Int):=by omega
  have q2:(k:Int)<l.length:=by omega
  clear hok
  cases har:iK p l[k] with
  | none =>
   rw [har] at Jl;have IB:=avE Jl;have hf:=afd hlt har;rw [Hq.out] at hf;subst hf;clear har hwd Jl;go_upto_region 7 with fail;refine dH (wr) (.run 5 0 0 (.call 5 63 (.take 6 127 (.done)))) fun bZ QR aB aH hS=>?_
   iterate 5 refine aC ?_
   refine fV (IB.out _ (bT jW.out hS)) ?_;clear hS;intro cZ bW hS;refine aC ?_;refine dB ?_;clear hS aH aB;intro hB;go_wp2;go_ret;exact ⟨rfl,bT jW.out hB⟩
  | some a =>
  rw [har] at Jl;have IB:=avE Jl;have hst:qo p l (k+1)=qo p l k+uM (zy p l[k]):=by
   have e0:l.getD k 0=l[k]:=by rw [avT,avG hlt];rfl
   rw [qo,e0,amw HV.out har]
  have ha:=(Qx har).1;have hpl:=ig p a;have hvl:=HV.out.FT ha;have hub:=HV.out.afb l k;have hne:l[k]≠-9223372036854775808:=by
   intro e;rw [e] at har;unfold iK at har;rw [if_pos (.inr rfl)] at har;cases har
  have hbd:=Qw hwd;have kM:=avE (HP.out l[k] Pe);have Di:=avE (show ∀ q∈zy p l[k],FQ q from fun q hq=>by
   rw [QA HV.out har] at hq;split at hq
   · exact HV.out.Vj ha hq
   · exact HV.out.Vj ha (List.mem_reverse.1 hq))
  have hPl:(zy p l[k]).length=a.via.length+2:=by
   rw [QA HV.out har];split
   · exact hpl
   · rw [List.length_reverse];exact hpl
  have oD:=avE (all_succ (p:=fun d=>(iK p d).isSome=true) Hno.out hlt (by rw [har];rfl));obtain ⟨N,hN⟩:∃ N,(zy p l[k]).length=N+1:=⟨(zy p l[k]).length-1,by omega⟩;have HN:=avE hN;have hNs:N<=65:=by omega
  clear hN hPl hvl;have fU:=avE hst;have yj:=avE (show k+1<=512 by omega);clear hst har hwd hne hbd Jl hpl;unfold uM at fU;unfold Ie at kM;generalize qo p l k=n at *;generalize hP:zy p l[k]=P at *;have hPd:=hP;clear hP;generalize hd:l[k]=d at *;have Hd:=avE hd;clear hPd hd;go_upto_region 7 with fail;refine dH (wr) (.run 5 0 0 (.call 5 63 (.take 6 127 (.done)))) fun bZ QR aB aH hS=>?_
  iterate 5 refine aC ?_
  refine fV (IB.out _ (bT jW.out hS)) ?_;clear hS;intro cZ bW hS;refine aC ?_;refine dB ?_;clear hS aH aB;intro hB;have B1:=avE (bT Hb.out hB);have amx:=avE (aff.out.keep hB);clear hB X2 aG aI aJ aO c0 hlb;obtain ⟨w1,hw1⟩:∃ w1:World,w1=cZ:=⟨_,rfl⟩;subst hw1;obtain ⟨b',o',hA,hlb,c0⟩:=(HR.out.mono (bT HB0.out B1.out)).int hlt;simp only [Option.some.injEq,Addr.mk.injEq,and_true] at hA;obtain ⟨rfl,rfl⟩:=hA;rw [Hd.out] at c0;have X2:=amx.out
  try clear aG
  try clear aI
  try clear aJ
  try clear aO
  obtain ⟨aG,aI,aJ,aO,-,-,-⟩:=X2.aF;go_upto_region 9 with fail;refine dH (w1) (.run 5 0 0 (.call 5 63 (.take 6 127 (.done)))) fun bZ QR aB aH hS=>?_
  iterate 5 refine aC ?_
  refine bK ?_;clear hS;intro K hK ak;go_simp;refine (kM.out _ (bT (bT HB0.out B1.out) ak.out)).mono ?_;rintro e cZ ⟨A2,c2,rfl,bW,ho2⟩;have hS:Since w1 cZ:=bT (w:=w1) ak.out bW;clear ak;refine hK.out _ _ hS (fun _=>?_);clear hK K
  try simp only [pu]
  refine aC ?_;refine dB ?_;clear hS aH aB;intro hB;have B2:=avE (bT B1.out hB);obtain ⟨Aq,cq,he,hq1,hq2,zA⟩:=ho2.sl;injection he with e1 e2 e3;subst e1 e3;clear e2;unfold maxLen at hq2;have Jj:=avE zA;clear hB ho2 zA kM X2 aG aI aJ aO c0 hlb;obtain ⟨W2,hw2⟩:∃ W2:World,W2=cZ:=⟨_,rfl⟩;subst hw2;have hst2:=fU.out;rw [HN.out,Nat.add_sub_cancel] at hst2;replace fU:=avE hst2;rw [HN.out] at hq1 ⊢;clear hst2;have Qy:=avE (fun j (hj:j+1<=P.length)=>ae9 Di.out j (.inl hj));go_wp2_with fail;go_loopw [5,8] (fun s i wx=>∃ j:Nat,j<=N/\i=.int .i64 ((j:Int)+1)/\s=.int .i64 (n+lU P j)/\Below W2.heap.size W2 wx) (fun _ i _=>N+1-(intOf i).toNat)
  case atStart => exact ⟨0,avK _,rfl,by simp [lU],bR W2⟩
  case round =>
   obtain ⟨j,hj,rfl,rfl,hbx⟩:=hrel;have iR:=avE hbx;clear hbx;by_cases hjl:j<N
   case pos =>
    have hP1:j<P.length:=by have:=HN.out;omega
    have hP2:j+1<P.length:=by have:=HN.out;omega
    obtain ⟨b1,o1,hA1,N9,c0,c1'⟩:=(Jj.out.mono iR.out).pt hP1;subst hA1;obtain ⟨b2,o2,hA2,-,d0,d1⟩:=(Jj.out.mono iR.out).pt hP2;simp only [Option.some.injEq,Addr.mk.injEq,and_true] at hA2;obtain ⟨rfl,rfl⟩:=hA2;have g1:=Di.out _ (avF hP1);have g2:=Di.out _ (avF hP2);have x1:=N8 g1.1 g2.2;have x2:=N8 g2.1 g1.2;have tb:=Qy.out j (by have:=HN.out;omega);have hstep:n+lU P (j+1)=n+lU P j+P[j].x*P[j+1].y-P[j+1].x*P[j].y:=by
     rw [lU];unfold rJ;simp only [avT,avG hP1,avG hP2,avU];omega
    have Jk:=avE hstep;have hsz:=yj.out;clear hstep g1 g2;generalize P[j]=p1 at *;generalize P[j+1]=p2 at *;generalize hT:lU P j=T at *;have q1:0<=(j:Int):=by omega
    have q2:(j:Int)<(N:Int)+1:=by omega
    have q3:0<=(j:Int)+1:=by omega
    have q4:(j:Int)+1<(N:Int)+1:=by omega
    have q5:((j:Int)+1).toNat=j+1:=by omega
    have m0:IntKind.i64.wrap (j:Int)=(j:Int):=avS _ Pe;have m1:IntKind.i64.wrap (p1.x*p2.y)=p1.x*p2.y:=avS _ Pe;have m2:IntKind.i64.wrap (p2.x*p1.y)=p2.x*p1.y:=avS _ Pe;have m3:IntKind.i64.wrap (n+T+p1.x*p2.y)=n+T+p1.x*p2.y:=avS _ Pe;have m4:IntKind.i64.wrap (n+T+p1.x*p2.y-p2.x*p1.y)=n+T+p1.x*p2.y-p2.x*p1.y:=avS _ Pe;clear x1 x2 tb hT hub hsz;go_upto_region 13 with fail;refine dH (wr) (.run 28 0 0 (.done)) fun bZ QR aB aH hS=>?_
    iterate 28 refine aC ?_
    refine dB ?_;clear hS aH aB;intro hB;have Bx:=avE (bT iR.out hB);clear hB m0 m1 m2 m3 m4;go_wp2;go_roundw
    case rel => exact ⟨j+1,by omega,by go_num,by rw [Jk.out],Bx.out⟩
    case measure => simp [intOf];omega
   case neg =>
   have hjj:j=N:=by omega
   subst hjj;have Bx:=avE (bT B2.out iR.out);clear hub;go_wp2;go_roundw
   case rel => exact ⟨k+1,by omega,by go_num,by rw [fU.out],Bx.out,oD.out⟩
   case measure => simp [intOf];omega
def FU (F:Int->Int) (K:Nat):Prop:=∀ x,F (pw F x K)=pw F x K
theorem QB {F:Int->Int} {x:Int} {K:Nat} (h:F (pw F x K)=pw F x K) (n:Nat):pw F x (K+n)=pw F x K:=by
 induction n with
 | zero=>rfl
 | succ n ih=>show F (pw F x (K+n))=_;rw [ih,h]
theorem afg {F:Int->Int} {x:Int} {i j:Nat} (hi:F (pw F x i)=pw F x i) (hj:F (pw F x j)=pw F x j):pw F x i=pw F x j:=by
 rcases Nat.le_total i j with h | h
 ·have:=QB hi (j-i)
  rw [show i+(j-i)=j by omega] at this;exact this.symm
 ·have:=QB hj (i-j)
  rw [show j+(i-j)=i by omega] at this;exact this
theorem FU.more {F:Int->Int} {K M:Nat} (h:FU F K) (hm:K<=M):FU F M:=by
 intro x;have:=QB (h x) (M-K)
 rw [show K+(M-K)=M by omega] at this;rw [this];exact h x
theorem FU.eq {F:Int->Int} {K M:Nat} (h:FU F K) (hm:K<=M) (x:Int):pw F x M=pw F x K:=afg (h.more hm x) (h x)
def oG (F:Int->Int) (a b:Int) (i:Int):Int:=if i=a then b else F i
theorem afh {F:Int->Int} {a b x:Int} (n:Nat) (h:∀ j,j<n->pw F x j≠a):pw (oG F a b) x n=pw F x n:=by
 induction n with
 | zero=>rfl
 | succ n ih =>
  show oG F a b (pw (oG F a b) x n)=F (pw F x n)
  rw [ih (fun j hj=>h j Pe)];unfold oG;rw [if_neg (h n Pe)]
theorem afi {P:Nat->Prop} [DecidablePred P] : ∀ n,P n->∃ j,j<=n/\P j/\∀ i,i<j->¬ P i
 | 0,h=>⟨0,awe _,h,fun i hi=>by omega⟩
 | n+1,h=>by
  by_cases h2:∃ m,m<=n/\P m
  ·obtain ⟨m,hm,hp⟩:=h2;obtain ⟨j,h1,h3,h4⟩:=afi m hp;exact ⟨j,by omega,h3,h4⟩
  · exact ⟨n+1,awe _,h,fun i hi hp=>h2 ⟨i,by omega,hp⟩⟩
termination_by n=>n
decreasing_by omega
theorem afj {F:Int->Int} {K:Nat} (h:FU F K) {a b:Int} (ha:F a=a) (hb:F b=b) (hne:a≠b) :
  FU (oG F a b) (K+1)/\∀ x,pw (oG F a b) x (K+1)=if pw F x K=a then b else pw F x K:=by
 have hfb:oG F a b b=b:=by unfold oG;rw [if_neg (fun e=>hne e.symm),hb]
 have key:∀ x,pw (oG F a b) x (K+1)=if pw F x K=a then b else pw F x K:=by
  intro x;by_cases hx:pw F x K=a
  ·rw [if_pos hx];obtain ⟨j,h1,h2,h3⟩:=afi (P:=fun j=>pw F x j=a) K hx;have e1:pw (oG F a b) x j=a:=by rw [afh j h3];exact h2
   have e2:pw (oG F a b) x (j+1)=b:=by
    show oG F a b (pw (oG F a b) x j)=b
    rw [e1];unfold oG;rw [if_pos rfl]
   have e3:oG F a b (pw (oG F a b) x (j+1))=pw (oG F a b) x (j+1):=by rw [e2];exact hfb
   have:=QB e3 (K-j)
   rw [show j+1+(K-j)=K+1 by omega] at this;rw [this,e2]
  ·rw [if_neg hx];have hn:∀ j,j<K+1->pw F x j≠a:=by
    intro j hj e;have e2:F (pw F x j)=pw F x j:=by rw [e];exact ha
    exact hx ((afg (h x) e2).trans e)
   rw [afh (K+1) hn];exact QB (h x) 1
 refine ⟨fun x=>?_,key⟩;rw [key x];split
 · exact hfb
 ·rename_i hx;unfold oG;rw [if_neg hx];exact h x
def FV (l:List Nd) (i:Int):Int:=if i∈l.map (·.id) then i else 0
theorem amy (l:List Nd):FU (FV l) 1:=by
 intro x
 show FV l (FV l x)=FV l x
 unfold FV;by_cases h:x∈l.map (·.id)
 · rw [if_pos h,if_pos h]
 · rw [if_neg h];split<;>rfl
def QC (K:Nat) (s:(Int->Int)×Int) (a:Ar):(Int->Int)×Int :=
 if pw s.1 a.fr K=pw s.1 a.dst K then s else (oG s.1 (pw s.1 a.fr K) (pw s.1 a.dst K),s.2-1)
def zB (p:Pl) (k:Nat):(Int->Int)×Int:=(p.aj.take k).foldl (QC (p.aj.length+1)) (FV p.nodes,(p.nodes.length:Int))
theorem aao (p:Pl) (k:Nat) (hk:k<p.aj.length):zB p (k+1)=QC (p.aj.length+1) (zB p k) p.aj[k]:=by
 unfold zB;rw [avH hk,List.foldl_append];rfl
structure amA (p:Pl) (k:Nat) (s:(Int->Int)×Int):Prop where
 flat:FU s.1 (k+1)
 bd:∀ x,-1073741824<=s.1 x/\s.1 x<=1073741824
 lo:(p.nodes.length:Int)-k<=s.2
 hi:s.2<=p.nodes.length
theorem amB {p:Pl} (h:Valid p) (k:Nat) (hk:k<=p.aj.length):amA p k (zB p k):=by
 induction k with
 | zero =>
  refine ⟨amy _,fun x=>?_,by simp [zB],by simp [zB]⟩
  show -1073741824<=FV p.nodes x/\FV p.nodes x<=1073741824
  unfold FV;split
  ·rename_i hm;obtain ⟨n,hn,rfl⟩:=av6.1 hm;have:=h.alU hn
   omega
  · omega
 | succ k ih =>
  obtain ⟨h1,h2,h3,h4⟩:=ih Pe;rw [aao p k Pe];generalize zB p k=s at *;unfold QC;split
  · exact ⟨h1.more Pe,h2,by omega,h4⟩
  ·rename_i hne;have e1:∀ x,s.1 (pw s.1 x (p.aj.length+1))=pw s.1 x (p.aj.length+1):=h1.more Pe;refine ⟨(afj h1 (e1 _) (e1 _) hne).1,fun x=>?_,by show _<=s.2-1;omega,by show s.2-1<=_;omega⟩
   show -1073741824<=oG _ _ _ x/\oG _ _ _ x<=1073741824
   unfold oG;split
   · rw [<- e1];exact h2 _
   · exact h2 _
def hY (p:Pt):Int:=8388608*p.y+p.x
theorem oU {a b:Pt} (ha:aZ a=true) (hb:aZ b=true) (h:hY a=hY b):a=b:=by
 rw [vJ] at ha hb;unfold hY at h;rw [Pt.ext_iff'];omega
instance (ux uy vx vy:Int):Decidable (qI ux uy vx vy):=by unfold qI fZ;infer_instance
instance (o a b:Pt):Decidable (gG o a b):=by unfold gG;infer_instance
def pR (a b v:Pt):Int:=if hY a<hY v/\hY v<hY b/\0<tw a b v then 1 else if hY b<hY v/\hY v<hY a/\0<tw b a v then -1 else 0
theorem aap (a b v:Pt):pR b a v=-pR a b v:=by
 unfold pR;by_cases h1:hY a<hY v/\hY v<hY b/\0<tw a b v
 · rw [if_pos h1,if_neg Pe,if_pos h1]
 ·rw [if_neg h1];by_cases h2:hY b<hY v/\hY v<hY a/\0<tw b a v
  · rw [if_pos h2,if_neg h1,if_pos h2];rfl
  · rw [if_neg h2,if_neg h1,if_neg h2];rfl
def QD (s t v:Pt):Int:=if hY s<hY v/\hY v<hY t/\tw s t v<0 then 1 else 0
theorem afk (a b s t:Pt):tw a b s*(hY t-hY b)+tw a b t*(hY b-hY s)=-((hY b-hY a)*tw s t b):=by unfold tw hY;grind
theorem afl (a b s t:Pt):tw a b s*(hY t-hY a)+tw a b t*(hY a-hY s)=-((hY b-hY a)*tw s t a):=by unfold tw hY;grind
theorem QE (a b s t:Pt):tw a b t-tw a b s=tw s t a-tw s t b:=by unfold tw;grind
theorem aaq (a b s t:Pt):aP a b s t=tw a b t-tw a b s:=by unfold tw aP;grind
theorem amC (a s t:Pt):aP a s s t=tw s t a:=by unfold tw aP;grind
theorem amD (a b s:Pt):aP a s a b=-tw a b s:=by unfold tw aP;grind
theorem afm (a b c:Pt):tw a c b=-tw a b c:=by unfold tw;grind
theorem FW (a b:Pt):tw a b a=0:=by unfold tw;grind
theorem FX (a b:Pt):tw a b b=0:=by unfold tw;grind
theorem afn {a b s t:Pt} (hab:a≠b) (h:pG a b s t=0) (hd:tw a b t-tw a b s≠0) :
  ¬ (tw a b s<=0/\0<=tw a b t/\tw s t b<=0/\0<=tw s t a)/\¬ (0<=tw a b s/\tw a b t<=0/\0<=tw s t b/\tw s t a<=0):=by
 have e:=QE a b s t;unfold pG at h;rw [if_neg (fun h=>hab h.1),amC a s t,amD a b s,aaq a b s t,if_neg hd] at h;split at h
 ·split at h
  · cases h
  · omega
 ·split at h
  · cases h
  · omega
def oV (a b s t:Pt):Prop:=tw a b t-tw a b s≠0->¬ (tw a b s<=0/\0<=tw a b t/\tw s t b<=0/\0<=tw s t a)/\¬ (0<=tw a b s/\tw a b t<=0/\0<=tw s t b/\tw s t a<=0)
theorem oV.of {a b s t:Pt} (hab:a≠b) (h:pG a b s t=0):oV a b s t:=afn hab h
theorem oV.comm {a b s t:Pt} (h:oV a b s t):oV s t a b:=by
 intro hd;have e:=QE a b s t;have:=h Pe
 omega
theorem oV.flip {a b s t:Pt} (h:oV a b s t):oV b a s t:=by
 intro hd;have e1:tw b a s=-tw a b s:=by unfold tw;grind
 have e2:tw b a t=-tw a b t:=by unfold tw;grind
 have:=h Pe
 omega
theorem pU (x:Int) {y z:Int} (h:y<z):(0<x*z-x*y↔0<x)/\(x*z-x*y<0↔x<0):=by
 rw [<- Int.mul_sub];have hp:0<z-y:=by omega
 rcases Int.lt_trichotomy x 0 with h1 | h1 | h1
 · have:=Int.mul_neg_of_neg_of_pos h1 hp;omega
 · subst h1;simp
 · have:=Int.mul_pos h1 hp;omega
theorem afo {a b s t:Pt} (hab:hY a<hY b) (hst:hY s<hY t) (h:oV a b s t) :
  (hY a<hY s->hY s<hY b->hY b<hY t->(0<tw a b s↔tw s t b<0)) /\
  (hY a<hY s->hY t<hY b->(0<tw a b s↔0<tw a b t)) /\
  (hY s<hY a->hY b<hY t->(tw s t a<0↔tw s t b<0)) /\
  (hY s<hY a->hY a<hY t->hY t<hY b->(0<tw a b t↔tw s t a<0)):=by
 have e:=QE a b s t;have i1:=afk a b s t;have i2:=afl a b s t;have j1:=afk s t a b;have j2:=afl s t a b;have nm:=h;unfold oV at nm;clear h;generalize tw a b s=u1 at *;generalize tw a b t=u2 at *;generalize tw s t a=u3 at *;generalize tw s t b=u4 at *;generalize hY a=A at *;generalize hY b=B at *;generalize hY s=S at *;generalize hY t=T at *;rw [Int.mul_sub,Int.mul_sub,Int.mul_comm (B-A),Int.mul_sub] at i1 i2;rw [Int.mul_sub,Int.mul_sub,Int.mul_comm (T-S),Int.mul_sub] at j1 j2;have g1:=pU u1 hst;have g2:=pU u2 hst;have g3:=pU u3 hab;have g4:=pU u4 hab;refine ⟨fun h1 h2 h3=>?_,fun h1 h2=>?_,fun h1 h2=>?_,fun h1 h2 h3=>?_⟩
 ·have f1:=pU u1 h3;have f2:=pU u2 h2;have f3:=pU u1 (show A<T by omega);have f4:=pU u2 h1;by_cases hd:u2-u1=0
  ·have:u1=u2:=by omega
   subst this;omega
  ·have:=nm hd
   omega
 ·have f1:=pU u1 h2;have f2:=pU u2 (show S<B by omega);have f3:=pU u1 (show A<T by omega);have f4:=pU u2 h1;by_cases hd:u2-u1=0
  · omega
  ·have:=nm hd
   omega
 ·have f1:=pU u3 h2;have f2:=pU u4 (show A<T by omega);have f3:=pU u3 (show S<B by omega);have f4:=pU u4 h1;by_cases hd:u2-u1=0
  · omega
  ·have:=nm hd
   omega
 ·have f1:=pU u1 h3;have f2:=pU u2 (show S<B by omega);have f3:=pU u1 h2;have f4:=pU u2 h1;by_cases hd:u2-u1=0
  ·have:u1=u2:=by omega
   subst this;have f5:=pU u1 (show S<T by omega);omega
  ·have:=nm hd
   omega
theorem afp {o p:Pt} (ho:aZ o=true) (hp:aZ p=true):fZ (p.x-o.x) (p.y-o.y)↔hY p<hY o:=by
 rw [vJ] at ho hp;unfold fZ hY;omega
theorem Oa {o a b:Pt} (ho:aZ o=true) (ha:aZ a=true) (hb:aZ b=true):gG o a b↔(¬ hY a<hY o/\hY b<hY o)\/((hY a<hY o↔hY b<hY o)/\0<tw o a b):=by
 unfold gG qI;rw [afp ho ha,afp ho hb];rfl
theorem afq {a b s t:Pt} (na:aZ a=true) (nb:aZ b=true) (ns:aZ s=true) (nt:aZ t=true) (hab:hY a<hY b) (hst:hY s<hY t)
  (hno:a≠s->a≠t->b≠s->b≠t->oV a b s t) :
  pR a b s+(if a=s/\gG s b t then 1 else 0)-(if b=s/\gG s a t then 1 else 0)-(pR a b t-(if a=t/\gG t s b then 1 else 0)+(if b=t/\gG t s a then 1 else 0))=QD s t b-QD s t a:=by
 have hne:a≠b:=fun e=>by rw [e] at hab;omega
 have d1:=Oa ns nb nt;have d2:=Oa ns na nt;have d3:=Oa nt ns nb;have d4:=Oa nt ns na;have q:∀ {u v:Pt},aZ u=true->aZ v=true->(u=v↔hY u=hY v):=fun hu hv=>⟨fun e=>by rw [e],oU hu hv⟩;have e1:tw s b t=-tw s t b:=afm s t b;have e2:tw t s a=-tw s t a:=by unfold tw;grind
 have f1:hY a=hY s->tw a b s=0/\tw s t a=0/\tw a b t=-tw s t b:=fun h=>by
  have:=oU na ns h
  subst this;exact ⟨FW a b,FW a t,e1⟩
 have f2:hY b=hY t->tw a b t=0/\tw s t b=0/\tw a b s=-tw s t a:=fun h=>by
  have:=oU nb nt h
  subst this;exact ⟨FX a b,FX s b,by unfold tw;grind⟩
 have f3:hY a≠hY s->hY a≠hY t->hY b≠hY s->hY b≠hY t->_:=fun h1 h2 h3 h4=>afo (s:=s) (t:=t) hab hst (hno (fun e=>h1 avA) (fun e=>h2 avA) (fun e=>h3 avA) (fun e=>h4 avA));have k1:(a=s/\gG s b t)↔(hY a=hY s/\tw s t b<0):=by rw [d1,q na ns,e1];constructor<;>(rintro ⟨h1,h2⟩;exact ⟨h1,by omega⟩)
 have k2:¬ (b=s/\gG s a t):=by rw [d2,q nb ns];rintro ⟨h1,h2⟩;omega
 have k3:¬ (a=t/\gG t s b):=by rw [d3,q na nt];rintro ⟨h1,h2⟩;omega
 have k4:(b=t/\gG t s a)↔(hY b=hY t/\tw s t a<0):=by rw [d4,q nb nt,e2];constructor<;>(rintro ⟨h1,h2⟩;exact ⟨h1,by omega⟩)
 have m1:pR a b s=if hY a<hY s/\hY s<hY b/\0<tw a b s then 1 else 0:=by unfold pR;rw [if_neg (show ¬ (hY b<hY s/\hY s<hY a/\0<tw b a s) by omega)]
 have m2:pR a b t=if hY a<hY t/\hY t<hY b/\0<tw a b t then 1 else 0:=by unfold pR;rw [if_neg (show ¬ (hY b<hY t/\hY t<hY a/\0<tw b a t) by omega)]
 rw [m1,m2,if_neg k2,if_neg k3];unfold QD;simp only [k1,k4];clear hno d1 d2 d3 d4 e1 e2 q na nb ns nt hne k1 k2 k3 k4 m1 m2;generalize tw a b s=u1 at *;generalize tw a b t=u2 at *;generalize tw s t a=u3 at *;generalize tw s t b=u4 at *;generalize hY a=A at *;generalize hY b=B at *;generalize hY s=S at *;generalize hY t=T at *;rcases Int.lt_trichotomy A S with h1 | h1 | h1
 ·clear f1;rcases Int.lt_trichotomy B S with h3 | h3 | h3
  ·clear f2 f3;rw [if_neg Pe,if_neg Pe,if_neg Pe,if_neg Pe,if_neg Pe,if_neg Pe];rfl
  ·clear f2 f3;rw [if_neg Pe,if_neg Pe,if_neg Pe,if_neg Pe,if_neg Pe,if_neg Pe];rfl
  ·rcases Int.lt_trichotomy B T with h2 | h2 | h2
   ·have f3:=(f3 Pe Pe Pe Pe).1 h1 h3 h2;clear f2;simp only [h1,h3,h2,true_and,f3,show ¬ A=S by omega,show ¬ T<B by omega,show ¬ B=T by omega,show ¬ S<A by omega,false_and,and_false,if_false];omega
   ·obtain ⟨-,-,f2⟩:=f2 h2;clear f3;simp only [h1,h3,h2,true_and,show ¬ A=S by omega,show ¬ S<A by omega,show ¬ T<T by omega,show A<T by omega,hst,false_and,and_false,if_false];split<;>split<;>omega
   ·have f3:=(f3 Pe Pe Pe Pe).2.1 h1 h2;clear f2;simp only [h1,h3,h2,true_and,f3,show ¬ A=S by omega,show ¬ S<A by omega,show ¬ B<T by omega,show ¬ B=T by omega,show A<T by omega,false_and,and_false,if_false];omega
 ·obtain ⟨f1a,f1b,f1⟩:=f1 h1;clear f3;subst h1;rcases Int.lt_trichotomy B T with h2 | h2 | h2
  ·clear f2;simp only [hab,h2,true_and,show ¬ A<A by omega,show ¬ B=T by omega,show ¬ T<B by omega,false_and,and_false,if_false];omega
  ·obtain ⟨f2a,f2b,f2⟩:=f2 h2;subst h2;simp only [hab,true_and,show ¬ A<A by omega,show ¬ B<B by omega,false_and,and_false,if_false];split<;>split<;>omega
  ·clear f2;simp only [hab,hst,h2,true_and,show ¬ A<A by omega,show ¬ B=T by omega,show ¬ B<T by omega,false_and,and_false,if_false];split<;>split<;>omega
 ·clear f1;rcases Int.lt_trichotomy A T with h3 | h3 | h3
  ·rcases Int.lt_trichotomy B T with h2 | h2 | h2
   ·have f3:=(f3 Pe Pe Pe Pe).2.2.1 h1 h2;clear f2;simp only [h1,h2,h3,true_and,f3,show ¬ A<S by omega,show ¬ A=S by omega,show ¬ T<B by omega,show ¬ B=T by omega,show S<B by omega,false_and,and_false,if_false];omega
   ·clear f2 f3;subst h2;simp only [h1,h3,hst,true_and,show ¬ A<S by omega,show ¬ A=S by omega,show ¬ B<B by omega,false_and,and_false,if_false];omega
   ·have f3:=(f3 Pe Pe Pe Pe).2.2.2 h1 h3 h2;clear f2;simp only [h1,h2,h3,true_and,f3,show ¬ A<S by omega,show ¬ A=S by omega,show ¬ B<T by omega,show ¬ B=T by omega,false_and,and_false,if_false];omega
  ·clear f2 f3;rw [if_neg Pe,if_neg Pe,if_neg Pe,if_neg Pe,if_neg Pe,if_neg Pe];rfl
  ·clear f2 f3;rw [if_neg Pe,if_neg Pe,if_neg Pe,if_neg Pe,if_neg Pe,if_neg Pe];rfl
section
variable {α β:Type}
theorem jF (l:List α) (f g:α->Int) (h:∀ x∈l,f x=g x):(l.map f).sum=(l.map g).sum:=by rw [List.map_congr_left h]
theorem Em (l:List α) (f:α->Int) (h:∀ x∈l,f x=0):(l.map f).sum=0:=by
 induction l with
 | nil=>rfl
 | cons a l ih=>rw [List.map_cons,List.sum_cons,h a ars,ih (fun x hx=>h x (by simp [hx]))];rfl
theorem yt (l:List α) (f g:α->Int):(l.map fun x=>f x+g x).sum=(l.map f).sum+(l.map g).sum:=by
 induction l with
 | nil=>rfl
 | cons a l ih=>simp only [List.map_cons,List.sum_cons,ih];omega
theorem BH (l:List α) (f:α->Int):(l.map fun x=>-f x).sum=-(l.map f).sum:=by
 induction l with
 | nil=>rfl
 | cons a l ih=>simp only [List.map_cons,List.sum_cons,ih];omega
theorem FY (l:List α) (c:Int) (f:α->Int):(l.map fun x=>c*f x).sum=c*(l.map f).sum:=by
 induction l with
 | nil=>simp
 | cons a l ih=>simp only [List.map_cons,List.sum_cons,ih,Int.mul_add]
theorem afs (l:List α) (m:List β) (f:α->β->Int):(l.map fun x=>(m.map fun y=>f x y).sum).sum=(m.map fun y=>(l.map fun x=>f x y).sum).sum:=by
 induction l with
 | nil=>simp only [List.map_nil,List.sum_nil];rw [Em m _ (fun _ _=>rfl)]
 | cons a l ih=>simp only [List.map_cons,List.sum_cons,ih];rw [yt]
theorem QF (n j:Nat) (f:Nat->Int) (h:∀ k,k<n->k≠j->f k=0):((List.range n).map f).sum=if j<n then f j else 0:=by
 induction n with
 | zero=>rfl
 | succ n ih =>
  rw [List.range_succ,List.map_append,List.sum_append,ih (fun k hk=>h k Pe)];simp only [List.map_cons,List.map_nil,List.sum_cons,List.sum_nil,Int.add_zero];by_cases hj:j=n
  · subst hj;rw [if_neg Pe,if_pos Pe];omega
  ·rw [h n Pe (fun e=>hj e.symm)];by_cases h2:j<n
   · rw [if_pos h2,if_pos Pe];omega
   · rw [if_neg h2,if_neg Pe];rfl
theorem sumT (n:Nat) (R:Nat->Int):((List.range n).map fun k=>R (k+1)-R k).sum=R n-R 0:=by
 induction n with
 | zero=>simp
 | succ n ih =>
  rw [List.range_succ,List.map_append,List.sum_append,ih];simp only [List.map_cons,List.map_nil,List.sum_cons,List.sum_nil];omega
theorem QG (l:List α) (k:α->Int) (hk:(l.map k).Pairwise (· < ·)) (r:Int->Int) (x:Int) (hx:∃ y∈l,k y=x):(l.map fun y=>if x=k y then r (k y) else 0).sum=r x:=by
 induction l with
 | nil=>obtain ⟨y,hy,-⟩:=hx;cases hy
 | cons a l ih =>
  rw [List.map_cons,List.pairwise_cons] at hk;rw [List.map_cons,List.sum_cons];by_cases e:x=k a
  · rw [if_pos e,Em l _ (fun y hy=>if_neg (fun e2=>by have:=hk.1 (k y) (awd hy);omega)),e];omega
  ·rw [if_neg e,ih hk.2 (by
    obtain ⟨y,hy,e2⟩:=hx;rcases av2.1 hy with rfl | hy
    · exact absurd e2.symm e
    · exact ⟨y,hy,e2⟩)]
   omega
end
def nO (f:Pt->Pt->Int) (l:List Pt):Int:=((List.range (l.length-1)).map fun k=>f (l.getD k aA) (l.getD (k+1) aA)).sum
def fB (p:Pl) (z:Int->Int) (f:Pt->Pt->Int):Int:=(p.aj.map fun a=>z a.id*nO f (au p a)).sum
theorem KN (p:Pl) (z:Int->Int) (f g:Pt->Pt->Int):fB p z (fun a b=>f a b+g a b)=fB p z f+fB p z g:=by
 unfold fB nO;rw [<- yt];exact jF _ _ _ fun a _=>by rw [yt,Int.mul_add]
theorem aft (p:Pl) (z:Int->Int) (f:Pt->Pt->Int):fB p z (fun a b=>-f a b)=-fB p z f:=by
 unfold fB nO;rw [<- BH];exact jF _ _ _ fun a _=>by rw [BH,Int.mul_neg]
theorem afu (p:Pl) (z:Int->Int) (f g:Pt->Pt->Int):fB p z (fun a b=>f a b-g a b)=fB p z f-fB p z g:=by
 have:=KN p z f (fun a b=>-g a b)
 rw [aft] at this;simp only [<- Int.sub_eq_add_neg] at this;exact this
theorem QH {p:Pl} {z:Int->Int} {f g:Pt->Pt->Int} (h:∀ a∈p.aj,∀ k,k+1<(au p a).length->f ((au p a).getD k aA) ((au p a).getD (k+1) aA)=g ((au p a).getD k aA) ((au p a).getD (k+1) aA)):fB p z f=fB p z g:=by
 unfold fB nO;refine jF _ _ _ fun a ha=>?_;congr 1;exact jF _ _ _ fun k hk=>h a ha k avu
def jc (p:Pl) (z:Int->Int):Prop:=∀ n∈p.nodes,(p.aj.map fun a=>z a.id*((if a.dst=n.id then 1 else 0)-(if a.fr=n.id then 1 else 0))).sum=0
theorem Dt (p:Pl) (a:Ar):(au p a).getD ((au p a).length-1) aA=nodeAt p a.dst:=by
 rw [ig];unfold au
 show (nodeAt p a.fr::(a.via++[nodeAt p a.dst])).getD (a.via.length+1) aA=_
 rw [List.getD_cons_succ,avT,List.getElem?_append_right Pe];simp
section
variable {p:Pl} (h:Valid p)
include h
theorem Valid.afv {z:Int->Int} (hz:jc p z) (r:Int->Int):(p.aj.map fun a=>z a.id*(r a.dst-r a.fr)).sum=0:=by
 have e:(p.aj.map fun a=>z a.id*(r a.dst-r a.fr)).sum=(p.aj.map fun a=>(p.nodes.map fun n=>r n.id*(z a.id*((if a.dst=n.id then 1 else 0)-(if a.fr=n.id then 1 else 0)))).sum).sum:=by
  refine jF _ _ _ fun a ha=>?_;obtain ⟨n1,h1,e1,-⟩:=h.sound.Ef ha;obtain ⟨n2,h2,e2,-⟩:=h.sound.FI ha;have s1:=QG p.nodes (·.id) h.sound.nodes r a.fr ⟨n1,h1,e1⟩;have s2:=QG p.nodes (·.id) h.sound.nodes r a.dst ⟨n2,h2,e2⟩;rw [<- s1,<- s2,Int.sub_eq_add_neg,<- BH,<- yt,<- FY];refine jF _ _ _ fun n _=>?_;by_cases c1:a.dst=n.id<;>by_cases c2:a.fr=n.id<;>simp only [c1,c2,if_true,if_false]<;>grind
 rw [e,afs];refine Em _ _ fun n hn=>?_;rw [FY,hz n hn,Int.mul_zero]
theorem Valid.QI {z:Int->Int} (hz:jc p z) (R:Pt->Int):fB p z (fun a b=>R b-R a)=0:=by
 rw [<- h.afv hz (fun i=>R (nodeAt p i))];unfold fB nO;refine jF _ _ _ fun a _=>?_;rw [sumT ((au p a).length-1) (fun k=>R ((au p a).getD k aA)),Dt,Dj]
theorem Valid.aar {a b:Ar} (ha:a∈p.aj) (hb:b∈p.aj) {k m:Nat} (hk:k+1<(au p a).length) (hm:m+1<(au p b).length)
  (h1:(au p a).getD k aA≠(au p b).getD m aA) (h2:(au p a).getD k aA≠(au p b).getD (m+1) aA) (h3:(au p a).getD (k+1) aA≠(au p b).getD m aA) (h4:(au p a).getD (k+1) aA≠(au p b).getD (m+1) aA) :
  oV ((au p a).getD k aA) ((au p a).getD (k+1) aA) ((au p b).getD m aA) ((au p b).getD (m+1) aA):=by
 have FZ:∀ {c d:Ar} {i j:Nat},c∈p.aj->d∈p.aj->i+1<(au p c).length->j+1<(au p d).length->eu [(au p c).getD i aA,(au p c).getD (i+1) aA,(au p d).getD j aA,(au p d).getD (j+1) aA]=true:=fun hc hd hi hj =>
  FK (h.dS hc Pe) (h.dS hc hi) (h.dS hd Pe) (h.dS hd hj)
 have same:∀ {i j:Nat},i<j->j+1<(au p a).length->(au p a).getD i aA≠(au p a).getD (j+1) aA->(au p a).getD (i+1) aA≠(au p a).getD j aA->oV ((au p a).getD i aA) ((au p a).getD (i+1) aA) ((au p a).getD j aA) ((au p a).getD (j+1) aA):=by
  intro i j hij hj n1 n2;have hap:=h.wH.2.1 a ha i j hij hj;unfold zl eH at hap;simp only at hap;rw [if_neg] at hap
  ·rw [beq_iff_eq] at hap;unfold iQ at hap;rw [if_pos (FZ ha ha Pe hj)] at hap;exact oV.of (h.distinct ha (k:=i) Pe).1 hap
  ·rintro (e | ⟨e1,e2,e3⟩)
   · subst e;exact n2 rfl
   ·subst e1;apply n1;have hl:=Dt p a;rw [show (au p a).length-1=j+1 by omega] at hl;rw [hl,Dj,e3]
 by_cases hab:a=b
 ·subst hab;rcases Nat.lt_trichotomy k m with hkm | hkm | hkm
  · exact same hkm hm h2 h3
  · subst hkm;exact absurd rfl h1
  · exact (same hkm hk (fun e=>h3 e.symm) (fun e=>h2 e.symm)).comm
 ·have other:∀ {c d:Ar} {i j:Nat},c∈p.aj->d∈p.aj->i+1<(au p c).length->j+1<(au p d).length->sZ p (eH p c i) (eH p d j)=true ->
    (au p c).getD i aA≠(au p d).getD j aA->(au p c).getD i aA≠(au p d).getD (j+1) aA->(au p c).getD (i+1) aA≠(au p d).getD j aA->(au p c).getD (i+1) aA≠(au p d).getD (j+1) aA ->
    oV ((au p c).getD i aA) ((au p c).getD (i+1) aA) ((au p d).getD j aA) ((au p d).getD (j+1) aA):=by
   intro c d i j hc hd hi hj hjo n1 n2 n3 n4;unfold sZ at hjo;split at hjo
   ·exfalso;obtain ⟨n,hn,hat⟩:=awg.1 hjo;unfold ru at hat;simp only [avR] at hat;have at_end:∀ {c:Ar} {i:Nat},c∈p.aj->i+1<(au p c).length->nV (eH p c i).a (eH p c i).b n.pt=true->(au p c).getD i aA=n.pt\/(au p c).getD (i+1) aA=n.pt:=by
     intro c i hc hi ho;rcases h.NU hc hi hn ho with ⟨e1,e2⟩ | ⟨e1,e2⟩
     · left;subst e1;rw [Dj,e2];exact h.sound.uI hn
     ·right;have hl:=Dt p c;rw [ig,show c.via.length+2-1=i+1 by omega] at hl;rw [hl,e2];exact h.sound.uI hn
    rcases at_end hc hi hat.1.2 with e1 | e1<;>rcases at_end hd hj hat.2 with e2 | e2
    · exact n1 (e1.trans e2.symm)
    · exact n2 (e1.trans e2.symm)
    · exact n3 (e1.trans e2.symm)
    · exact n4 (e1.trans e2.symm)
   ·rw [beq_iff_eq] at hjo;unfold iQ eH at hjo;rw [if_pos (FZ hc hd hi hj)] at hjo;exact oV.of (h.distinct hc hi).1 hjo
  have hpw:=h.wH.2.2;obtain ⟨i,hi,rfl⟩:=avI.1 ha;obtain ⟨j,hj,rfl⟩:=avI.1 hb;rw [avJ] at hpw;rcases Nat.lt_trichotomy i j with hij | hij | hij
  · exact other ha hb hk hm (hpw i j hi hj hij k hk m hm) h1 h2 h3 h4
  · subst hij;exact absurd rfl hab
  · exact (other hb ha hm hk (hpw j i hj hi hij m hm k hk) (fun e=>h1 e.symm) (fun e=>h3 e.symm) (fun e=>h2 e.symm) (fun e=>h4 e.symm)).comm
end
theorem amE (l:List Pt):y8 l=false↔l.Pairwise (·≠·):=by
 constructor
 ·intro h;rw [avJ];intro i j hi hj hij e;have:=Zl l j i hij hj e.symm
  rw [h] at this
  cases this
 ·intro h;rw [avJ] at h;exact Zm l fun j k hk hj e=>h k j Pe hj hk e.symm
section
variable {p:Pl} (h:Valid p)
include h
end
end Go.Proofs.YtialfdomhoojiaaGreat
