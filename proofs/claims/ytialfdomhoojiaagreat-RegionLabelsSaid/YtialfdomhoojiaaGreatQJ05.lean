import Derived.Test.YtialfdomhoojiaaGreatQJ04
import Derived.Lib.AppendZerosOnto
set_option linter.unusedSimpArgs false
set_option linter.unusedVariables false
set_option maxRecDepth 100000
set_option maxHeartbeats 8000000
namespace Go.Proofs.YtialfdomhoojiaaGreat
open Go.RowKit
def dI {α:Type} (l:List α) (f:α->Bool) (g:α->α->Bool):Bool:=(List.range l.length).all fun i=>match l[i]? with
 | none=>true
 | some t=>f t && (l.take i).all fun s=>g s t
theorem ah5 {α:Type} (l:List α) (f:α->Bool) (g:α->α->Bool) (i:Nat) (hi:i<l.length) (h:f l[i]=false):dI l f g=false:=by
 unfold dI;rw [gY];exact ⟨i,Et.2 hi,by simp [Dh hi,h]⟩
theorem ah6 {α:Type} (l:List α) (f:α->Bool) (g:α->α->Bool) (i k:Nat) (hk:k<i) (hi:i<l.length) (h:g (l[k]'(by omega)) l[i]=false):dI l f g=false:=by
 unfold dI;rw [gY];refine ⟨i,Et.2 hi,?_⟩;have:(l.take i).all (fun s=>g s l[i])=false:=by
  rw [gY];refine ⟨l[k]'(by omega),?_,by simp [h]⟩;rw [EF];exact ⟨k,su,Ak⟩
 simp [Dh hi,this]
theorem ah7 {α:Type} (l:List α) (f:α->Bool) (g:α->α->Bool) (h1:∀ i (hi:i<l.length),f l[i]=true) (h2:∀ i k (hk:k<i) (hi:i<l.length),g (l[k]'(by omega)) l[i]=true):dI l f g=true:=by
 unfold dI;rw [KU];intro i hi;have hi:=Et.1 hi;rw [Dh hi];simp only [Ei];refine ⟨h1 i hi,KU.2 fun s hs=>?_⟩;obtain ⟨k,hk,rfl⟩:=EF.1 hs;rw [Iw] at hk;have:=h2 i k AB hi
 simpa using this
def NG (p:Pl) (s t:Sg):Bool:=if s.arc.id=t.arc.id then SE s t else PG p s t
def MP (p:Pl):Bool:=dI (UK p) (QK p) (NG p)
theorem anR (p:Pl) (hl:(p.AP.flatMap (·.via)).length<=1048576) (s:Sg) (hs:s∈UK p):s.i<=2097152/\1<=s.n/\s.n<=2097152:=by
 unfold UK at hs;obtain ⟨a,ha,hs⟩:=Gf.1 hs;unfold Jv at hs;obtain ⟨k,hk,rfl⟩:=ED.1 hs;have hk:=Et.1 hk;rw [Ey] at hk ⊢;obtain ⟨i,hi,rfl⟩:=EF.1 ha;have:=ac3 p.AP (·.via) i hi
 simp only [];omega
theorem Row.sg {w:World} {A:Option Addr} {l:List (Sg×SV)} (h:Row w A (l.flatMap Yu)) {k:Nat} (hk:k<l.length) :
  ∃ b o,A=some ⟨b,o,none⟩/\b<w.heap.size/\w.cell? ⟨b,o+k*12,none⟩=some (.int .i64 l[k].1.arc.id)/\w.cell? ⟨b,o+k*12+1,none⟩=some (.int .i64 l[k].1.arc.fr)/\w.cell? ⟨b,o+k*12+2,none⟩=some (.int .i64 l[k].1.arc.dst)/\w.cell? ⟨b,o+k*12+3,none⟩=some (.slice l[k].2.a l[k].2.n l[k].2.c)/\w.cell? ⟨b,o+k*12+4,none⟩=some (.int .i64 l[k].1.arc.left)/\w.cell? ⟨b,o+k*12+5,none⟩=some (.int .i64 l[k].1.arc.right)/\w.cell? ⟨b,o+k*12+6,none⟩=some (.int .i64 l[k].1.i)/\w.cell? ⟨b,o+k*12+7,none⟩=some (.int .i64 l[k].1.n)/\w.cell? ⟨b,o+k*12+8,none⟩=some (.int .i64 l[k].1.a.x)/\w.cell? ⟨b,o+k*12+9,none⟩=some (.int .i64 l[k].1.a.y)/\w.cell? ⟨b,o+k*12+10,none⟩=some (.int .i64 l[k].1.b.x)/\w.cell? ⟨b,o+k*12+11,none⟩=some (.int .i64 l[k].1.b.y):=by
 obtain ⟨b,o,hA,hb,hc⟩:=h.at_ (n:=12) (fun _=>rfl) hk AB;exact ⟨b,o,hA,hb,hc 0 _ rfl,hc 1 _ rfl,hc 2 _ rfl,hc 3 _ rfl,hc 4 _ rfl,hc 5 _ rfl,hc 6 _ rfl,hc 7 _ rfl,hc 8 _ rfl,hc 9 _ rfl,hc 10 _ rfl,hc 11 _ rfl⟩
theorem anS (v:Value) (p:Pl) (w:World) (h:Ci w v p) (hl1:p.AP.length<=4096) (hl2:(p.AP.flatMap (·.via)).length<=1048576) :
  Calls Tryz.prog 130 #[v] w fun e w'=>e=.returned (.bool (MP p))/\AU w w':=by
 have HP:=AA h;obtain ⟨vn,va,vf,al,rfl,-⟩:=h;have hok:=anR p hl2;have dJ:=AA hok;clear hok;obtain ⟨q,hq⟩:=BN (MP p);rw [hq];have Hq:=AA hq;clear hq;have RD:=AA hl1;have HL2:=AA hl2;have Hbd:=AA (show (UK p).length<=1052672 by unfold UK;rw [afx];omega);clear hl1 hl2;go_enter Tryz.func130,Tryz.ntmps130;go_wp2_with fail;refine (anP _ p _ (HP.out.mono (bA (bR w) _)) RD.out HL2.out).mono ?_;rintro e w1 ⟨sl,v1,hsl,rfl,hb1,hown⟩;have Bw:AU w w1:=by
  exact EC
 have X2:AO _ (w.heap.size) 26 #[vn,va,vf]:=AO.keep (by repeat (first | exact AO.made Ak _ _ | refine AO.alloc ?_ _)) hb1;clear hb1;have hsl2:=Own.sl hown;obtain ⟨A,c,rfl,hn1,hn2,hR⟩:=hsl2;unfold maxLen at hn2;have HR:=AA hR;have UL:=AA hsl;have hlen:sl.length<=1052672:=by have:=congrArg List.length hsl;rw [Cj] at this;have:=Hbd.out;omega
 have CG:=AA X2;have HB:=AA Bw;clear X2 Bw hown hR hsl;have hin:∀ k (hk:k<sl.length),sl[k].1.i<=2097152/\1<=sl[k].1.n/\sl[k].1.n<=2097152:=fun k hk=>dJ.out _ (by rw [<- UL.out];exact Gh (BO hk));have uY:=AA hin;clear hin;have hF:∀ i (hi:i<sl.length),QK p sl[i].1=false->q=false:=fun i hi h=>by
  rw [<- Hq.out,MP,<- UL.out];exact ah5 _ _ _ i mF (by simpa using h)
 have hG:∀ i k (hk:k<i) (hi:i<sl.length),NG p (sl[k]'(by omega)).1 sl[i].1=false->q=false:=fun i k hk hi h=>by
  rw [<- Hq.out,MP,<- UL.out];exact ah6 _ _ _ i k hk mF (by simpa using h)
 have hY:(∀ i (hi:i<sl.length),QK p sl[i].1=true)->(∀ i k (hk:k<i) (hi:i<sl.length),NG p (sl[k]'(by omega)).1 sl[i].1=true)->q=true:=fun h1 h2=>by
  rw [<- Hq.out,MP,<- UL.out];refine ah7 _ _ _ (fun i hi=>?_) (fun i k hk hi=>?_)
  · have:=h1 i mF;simpa using this
  · have:=h2 i k hk mF;simpa using this
 have HF:=AA hF;have HG:=AA hG;have HY:=AA hY;clear hF hG hY;go_wp2_with fail;go_loopw [4] (fun u wr=>∃ i:Nat,i<=sl.length/\u=.int .i64 i/\AU w1 wr/\(∀ j (hj:j<sl.length),j<i->QK p sl[j].1=true)/\(∀ j k (hk:k<j) (hj:j<sl.length),j<i->NG p (sl[k]'(by omega)).1 sl[j].1=true)) (fun u _=>sl.length-(intOf u).toNat)
 case atStart => exact ⟨0,Bv _,rfl,bR w1,fun _ _ h=>by omega,fun _ _ _ _ h=>by omega⟩
 case round =>
  obtain ⟨i,hi,rfl,hb,uZ,Vl⟩:=hrel;have Hb:=AA hb;have nD:=AA uZ;have nG:=AA Vl;have X2:=CG.out.keep hb;clear hb uZ Vl;obtain ⟨BU,BX,Bg,CB,-,-,-⟩:=X2.Az;by_cases hlt:i<sl.length
  case neg =>
   have hf:=AA (HY.out (fun j hj=>nD.out j hj AB) (fun j k hk hj=>nG.out j k hk hj AB));go_wp2;go_ret;exact ⟨CW hf.out.symm,bT HB.out Hb.out⟩
  obtain ⟨b,o,rfl,hlb,c0,c1,c2,c3,c4,c5,c6,c7,c8,c9,c10,c11⟩:=(HR.out.mono Hb.out).sg hlt;have q1:0<=(i:Int):=by omega
  have q2:(i:Int)<sl.length:=by omega
  have TA:∀ W,AU w W->Calls Tryz.prog 189 #[.agg #[vn,va,vf],Qx sl[i].1 (.slice sl[i].2.a sl[i].2.n sl[i].2.c)] W _:=fun W hW=>anv _ p sl[i].1 sl[i].2.a sl[i].2.n sl[i].2.c W (HP.out.mono hW) (uY.out i hlt).1 (uY.out i hlt).2.2;unfold Qx at TA;have HA:=AA TA;clear TA;go_upto_region 5 with fail;refine DJ (wr) (.run 5 0 0 (.call 5 63 (.take 6 127 (.done)))) fun CU QR Ae Ah hS=>?_
  iterate 5 refine Aj ?_
  refine GL (HA.out _ (bT (bT HB.out Hb.out) hS)) ?_;clear hS;intro CX CV hS;refine Aj ?_;refine DF ?_;clear hS Ah Ae;intro hB;have Bi:AU w1 CX:=bT Hb.out hB
  cases ha:QK p sl[i].1
  case false =>
   have hf:=AA (HF.out i hlt ha);clear ha;go_wp2;go_ret;exact ⟨CW hf.out.symm,bT HB.out Bi⟩
  have Ha:=AA ha;have HBi:=AA Bi;clear ha Bi hB c0 c1 c2 c3 c4 c5 c6 c7 c8 c9 c10 c11 hlb X2 BU BX Bg CB HA;simp only [Bool.not_true];go_wp2_with fail;obtain ⟨wo,rfl⟩:=BR wr;go_loopw [5] (fun u wr=>∃ k:Nat,k<=i/\u=.int .i64 k/\AU w1 wr/\∀ j (hj:j<sl.length),j<k->NG p sl[j].1 sl[i].1=true) (fun u _=>i-(intOf u).toNat)
  case atStart => exact ⟨0,Bv _,rfl,HBi.out,fun _ _ h=>by omega⟩
  case round =>
   obtain ⟨k,hk,rfl,hb,hno⟩:=hrel;have Hb2:=AA hb;have Hn3:=AA hno;have X2:=CG.out.keep hb;clear hb hno
   try clear BU BX Bg CB
   obtain ⟨BU,BX,Bg,CB,-,-,-⟩:=X2.Az;by_cases hki:k<i
   case neg =>
    have bW:=AA (all_succ (p:=fun x=>QK p x.1=true) nD.out hlt Ha.out);have bY:Hid (∀ j m (hm:m<j) (hj:j<sl.length),j<i+1->NG p (sl[m]'(by omega)).1 sl[j].1=true):=AA fun j m hm hj hji=>by
     by_cases e:j<i
     · exact nG.out j m hm hj e
     ·have:j=i:=by omega
      subst this;exact Hn3.out m AB AB
    go_wp2;go_roundw
    case rel => exact ⟨i+1,AB,BJ,Hb2.out,bW.out,bY.out⟩
    case measure => exact BL
   have hkl:k<sl.length:=by omega
   obtain ⟨b',o',Eo,hlb,c0,c1,c2,c3,c4,c5,c6,c7,c8,c9,c10,c11⟩:=(HR.out.mono Hb2.out).sg hlt;simp only [JM,Addr.mk.injEq,and_true] at Eo;obtain ⟨rfl,rfl⟩:=Eo;obtain ⟨b',o',Eo,-,d0,d1,d2,d3,d4,d5,d6,d7,d8,d9,d10,d11⟩:=(HR.out.mono Hb2.out).sg hkl;simp only [JM,Addr.mk.injEq,and_true] at Eo;obtain ⟨rfl,rfl⟩:=Eo;have r1:0<=(k:Int):=by omega
   have r2:(k:Int)<sl.length:=by omega
   have TA:∀ W,Calls Tryz.prog 190 #[Qx sl[k].1 (.slice sl[k].2.a sl[k].2.n sl[k].2.c),Qx sl[i].1 (.slice sl[i].2.a sl[i].2.n sl[i].2.c)] W _:=fun W=>apart_spec sl[k].1 sl[i].1 sl[k].2.a sl[i].2.a sl[k].2.n sl[i].2.n sl[k].2.c sl[i].2.c W (uY.out k hkl).1 (uY.out i hlt).2.2 (uY.out i hlt).2.1;have TJ:∀ W,AU w W->Calls Tryz.prog 191 #[.agg #[vn,va,vf],Qx sl[k].1 (.slice sl[k].2.a sl[k].2.n sl[k].2.c),Qx sl[i].1 (.slice sl[i].2.a sl[i].2.n sl[i].2.c)] W _:=fun W hW=>anu _ p sl[k].1 sl[i].1 sl[k].2.a sl[i].2.a sl[k].2.n sl[i].2.n sl[k].2.c sl[i].2.c W (HP.out.mono hW);unfold Qx at TA TJ;have HJ:=AA TJ;clear TJ
   cases hid:(sl[k].1.arc.id == sl[i].1.arc.id)
   case true =>
    have hpr:NG p sl[k].1 sl[i].1=SE sl[k].1 sl[i].1:=by unfold NG;rw [AZ (eq_of_beq hid)]
    have anT:(sl[k].1.arc.id != sl[i].1.arc.id)=false:=by simp [bne,hid]
    have uf:=AA hpr;clear hpr
    cases ha:SE sl[k].1 sl[i].1
    case false =>
     rw [ha] at TA;have HA:=AA TA;have hf:=AA (HG.out i k hki hlt (uf.out.trans ha));clear TA ha;go_upto_region 10 with fail;refine DJ (wr) (.run 22 0 0 (.call 22 8388607 (.run 30 23 8388607 (.done)))) fun CU QR Ae Ah hS=>?_
     iterate 14 refine Aj ?_
     iterate 8 refine Du ?_
     refine GL (HA.out _) ?_;clear hS;intro CX CV hS;refine Du ?_
     iterate 2 refine Aj ?_
     iterate 26 refine Jh ?_
     refine Aj ?_;refine DF ?_;clear hS Ah Ae;intro hB;have B3:AU w1 CX:=bT Hb2.out hB;go_wp2;go_ret;exact ⟨CW hf.out.symm,bT HB.out B3⟩
    case true =>
     rw [ha] at TA;have HA:=AA TA;have hg:=AA (uf.out.trans ha);clear TA ha;go_upto_region 10 with fail;refine DJ (wr) (.run 22 0 0 (.call 22 8388607 (.run 30 23 8388607 (.done)))) fun CU QR Ae Ah hS=>?_
     iterate 14 refine Aj ?_
     iterate 8 refine Du ?_
     refine GL (HA.out _) ?_;clear hS;intro CX CV hS;refine Du ?_
     iterate 2 refine Aj ?_
     iterate 14 refine Du ?_
     iterate 11 refine Jh ?_
     refine Du ?_;refine Aj ?_;refine DF ?_;clear hS Ah Ae;intro hB;have B3:AU w1 CX:=bT Hb2.out hB;go_wp2;go_roundw
     case rel => exact ⟨k+1,AB,BJ,B3,all_succ (p:=fun x=>NG p x.1 sl[i].1=true) Hn3.out hkl hg.out⟩
     case measure => exact BL
   case false =>
    have hpr:NG p sl[k].1 sl[i].1=PG p sl[k].1 sl[i].1:=by unfold NG;rw [AX (ne_of_beq_false hid)]
    have anT:(sl[k].1.arc.id != sl[i].1.arc.id)=true:=by simp [bne,hid]
    have uf:=AA hpr;clear hpr TA;go_upto_region 10 with fail;refine DJ (wr) (.run 49 0 0 (.call 49 1125899906842623 (.run 3 50 1125899906842623 (.done)))) fun CU QR Ae Ah hS=>?_
    iterate 14 refine Aj ?_
    iterate 10 refine Jh ?_
    iterate 2 refine Aj ?_
    iterate 23 refine Du ?_
    refine GL (HJ.out _ (bT (bT HB.out Hb2.out) hS)) ?_;clear hS;intro CX CV hS
    iterate 2 refine Du ?_
    refine Aj ?_;refine DF ?_;clear hS Ah Ae;intro hB;have B3:AU w1 CX:=bT Hb2.out hB
    cases ha:PG p sl[k].1 sl[i].1
    case false =>
     have hf:=AA (HG.out i k hki hlt (uf.out.trans ha));clear ha;go_wp2;go_ret;exact ⟨CW hf.out.symm,bT HB.out B3⟩
    case true =>
     have hg:=AA (uf.out.trans ha);clear ha;go_wp2;go_roundw
     case rel => exact ⟨k+1,AB,BJ,B3,all_succ (p:=fun x=>NG p x.1 sl[i].1=true) Hn3.out hkl hg.out⟩
     case measure => exact BL
def QL (p:Pl):Bool:=OH (p.nodes.map (·.id)) && OH (p.AP.map (·.id)) && OH p.faces
def SI (p:Pl):Bool:=p.AP.all fun a=>F6 p.faces a.left && F6 p.faces a.right
def IG (p:Pl):Int :=
 if Ji p=true then 3 else if QL p=false then 10 else if Nb p=false then 2 else if UJ (p.nodes.map (·.pt))=true then 8
 else if p.AP.all (JY p)=false then 7 else if SI p=false then 12 else if MP p=false then 11 else 0
theorem aBJ {α β:Type} (l:List α) (f:α->List β) (n:Nat) (h:∀ a∈l,(f a).length<=n):(l.flatMap f).length<=l.length*n:=by
 induction l with
 | nil=>simp
 | cons a l ih =>
  simp only [KI,ER,IU,Nat.succ_mul];have:=h a Ak
  have:=ih fun b hb=>h b (by simp [hb])
  omega
theorem ug {p:Pl} (h:Ji p=false):(∀ a∈p.AP,a.via.length<=64)/\p.nodes.length<=256/\p.AP.length<=256/\p.faces.length<=64/\(p.AP.flatMap (·.via)).length<=16384:=by
 unfold Ji at h;simp only [QC,Iy,XO,EO] at h;obtain ⟨h1,⟨h2,h3⟩,h4⟩:=h;have h5:∀ a∈p.AP,a.via.length<=64:=fun a ha=>by have:=h1 a ha;omega
 have h6:=aBJ p.AP (·.via) 64 h5;refine ⟨h5,AB,AB,AB,AB⟩
theorem ah8 (v:Value) (p:Pl) (w:World) (h:Ci w v p) :
  Calls Tryz.prog 65 #[v] w fun e w'=>e=.returned (.int .i64 (IG p))/\AU w w':=by
 have HP:=AA h;obtain ⟨vn,_,vf,al,rfl,hpa,-,⟨⟨Aa,ca,rfl,ha1,ha2,FD⟩,hV⟩,hF⟩:=h;unfold maxLen at ha2;have HF:=AA hF;clear hF;have HV:=AA hV;clear hV;have GN:=AA FD;clear FD;have dK:=AA hpa;clear hpa;obtain ⟨q,hq⟩:=BN (IG p);rw [hq];unfold IG at hq;have Hq:=AA hq;clear hq;go_enter Tryz.func65,Tryz.ntmps65;go_wp2_with fail;refine (aoF _ p _ (HP.out.mono (bA (bR w) _))).mono ?_;rintro e w1 ⟨rfl,hb1⟩;have Bw:AU w w1:=by
  exact EC
 have X2:AO _ (w.heap.size) 26 #[vn,.slice Aa al.length ca,vf]:=AO.keep (by repeat (first | exact AO.made Ak _ _ | refine AO.alloc ?_ _)) hb1;clear hb1;obtain ⟨BU,BX,Bg,CB,-,-,-⟩:=X2.Az
 cases hl:Ji p
 case true =>
  have hf:=AA (show 3=q by rw [<- Hq.out,AZ hl]);clear hl;go_wp2;go_ret;exact ⟨Df hf.out,Bw⟩
 have Hl:=AA (ug hl);rw [hl] at Hq;replace Hq:=AA Hq.out;clear hl;have hsh:Short p:=fun a ha=>by have:=Hl.out.1 a ha;omega
 have DW:=AA hsh;clear hsh;go_wp2_with fail;refine (agK _ p _ (HP.out.mono Bw) iF).mono ?_;rintro e w2 ⟨v2,rfl,hb2,ho2⟩;replace Bw:=bT Bw hb2;replace X2:=X2.keep hb2;clear hb2
 try clear BU BX Bg CB
 obtain ⟨BU,BX,Bg,CB,-,-,-⟩:=X2.Az;have hi2:=Own.sl ho2;go_wp2_with fail;refine (ac8 _ _ _ hi2).mono ?_;rintro e w3 ⟨rfl,hb3⟩;replace Bw:=bT Bw hb3;replace X2:=X2.keep hb3;clear hb3
 try clear BU BX Bg CB
 try clear BU BX Bg CB
 obtain ⟨BU,BX,Bg,CB,-,-,-⟩:=X2.Az
 cases h1:OH (p.nodes.map (·.id))
 case false =>
  have hf:=AA (show 10=q by rw [<- Hq.out];simp [QL,h1]);clear h1;go_wp2;go_ret;exact ⟨Df hf.out,Bw⟩
 have H1:=AA h1;clear h1 hi2 ho2;go_wp2_with fail;refine (agL _ p _ (HP.out.mono Bw) iF).mono ?_;rintro e w4 ⟨v4,rfl,hb4,Jk⟩;replace Bw:=bT Bw hb4;replace X2:=X2.keep hb4;clear hb4
 try clear BU BX Bg CB
 obtain ⟨BU,BX,Bg,CB,-,-,-⟩:=X2.Az;have hi4:=Own.sl Jk;go_wp2_with fail;refine (ac8 _ _ _ hi4).mono ?_;rintro e w5 ⟨rfl,hb5⟩;replace Bw:=bT Bw hb5;replace X2:=X2.keep hb5;clear hb5
 try clear BU BX Bg CB
 try clear BU BX Bg CB
 obtain ⟨BU,BX,Bg,CB,-,-,-⟩:=X2.Az
 cases h1:OH (p.AP.map (·.id))
 case false =>
  have hf:=AA (show 10=q by rw [<- Hq.out];simp [QL,h1]);clear h1;go_wp2;go_ret;exact ⟨Df hf.out,Bw⟩
 have H2:=AA h1;clear h1 hi4 Jk;go_wp2_with fail;refine (ac8 _ _ _ (HF.out.mono Bw)).mono ?_;rintro e w6 ⟨rfl,hb6⟩;replace Bw:=bT Bw hb6;replace X2:=X2.keep hb6;clear hb6
 try clear BU BX Bg CB
 try clear BU BX Bg CB
 obtain ⟨BU,BX,Bg,CB,-,-,-⟩:=X2.Az
 cases h1:OH p.faces
 case false =>
  have hf:=AA (show 10=q by rw [<- Hq.out];simp [QL,h1]);clear h1;go_wp2;go_ret;exact ⟨Df hf.out,Bw⟩
 have ho:=Hq.out;rw [show QL p=true by simp [QL,H1.out,H2.out,h1]] at ho;replace Hq:=AA ho;clear h1 ho H1 H2;go_wp2_with fail;refine (ang _ p _ (HP.out.mono Bw) iF iF iF iF).mono ?_;rintro e w7 ⟨rfl,hb7⟩;replace Bw:=bT Bw hb7;replace X2:=X2.keep hb7;clear hb7
 try clear BU BX Bg CB
 try clear BU BX Bg CB
 obtain ⟨BU,BX,Bg,CB,-,-,-⟩:=X2.Az
 cases h1:Nb p
 case false =>
  have hf:=AA (show 2=q by rw [<- Hq.out];simp [h1]);clear h1;go_wp2;go_ret;exact ⟨Df hf.out,Bw⟩
 rw [h1] at Hq;replace Hq:=AA Hq.out;clear h1;go_wp2_with fail;refine (anf _ p _ (HP.out.mono Bw)).mono ?_;rintro e w8 ⟨rfl,hb8⟩;replace Bw:=bT Bw hb8;replace X2:=X2.keep hb8;clear hb8
 try clear BU BX Bg CB
 try clear BU BX Bg CB
 obtain ⟨BU,BX,Bg,CB,-,-,-⟩:=X2.Az
 cases h1:UJ (p.nodes.map (·.pt))
 case true =>
  have hf:=AA (show 8=q by rw [<- Hq.out];simp [h1]);clear h1;go_wp2;go_ret;exact ⟨Df hf.out,Bw⟩
 rw [h1] at Hq;replace Hq:=AA Hq.out;clear h1;have CG:=AA X2;have HB:=AA Bw;clear X2 BU BX Bg CB Bw;simp only [Bool.not_true];go_wp2_with fail;go_loopw [3] (fun i wr=>∃ k:Nat,k<=al.length/\i=.int .i64 k/\AU w8 wr/\∀ j (hj:j<al.length),j<k->JY p al[j].1=true) (fun i _=>al.length-(intOf i).toNat)
 case atStart => exact ⟨0,Bv _,rfl,bR w8,fun j _ h=>by omega⟩
 case round =>
  obtain ⟨k,hk,rfl,hb,hno⟩:=hrel;have Hb:=AA hb;have Hno:=AA hno;have X1:=CG.out.keep hb;clear hb hno;obtain ⟨BF,BG,BH,BI,-,-,-⟩:=X1.Az;by_cases hlt:k<al.length
  case neg =>
   have hg:=AA (show p.AP.all (JY p)=true by
    rw [dK.out,XJ];exact nK al (fun a=>JY p a.1) (fun j hj=>Hno.out j hj AB))
   have ho:=Hq.out;rw [hg.out] at ho;replace Hq:=AA ho;clear ho;go_wp2_with fail;obtain ⟨wo,rfl⟩:=BR wr;have Dt:=AA X1;have FP:=AA (bT HB.out Hb.out);clear X1 BF BG BH BI;go_loopw [6] (fun i wr=>∃ k:Nat,k<=al.length/\i=.int .i64 k/\AU wo wr/\∀ j (hj:j<al.length),j<k->(F6 p.faces al[j].1.left && F6 p.faces al[j].1.right)=true) (fun i _=>al.length-(intOf i).toNat)
   case atStart => exact ⟨0,Bv _,rfl,bR wo,fun j _ h=>by omega⟩
   case round =>
    obtain ⟨k,hk,rfl,hb,hno⟩:=hrel;have Hb2:=AA hb;have Qw:=AA hno;have X1:=Dt.out.keep hb;clear hb hno
    try clear BF BG BH BI
    obtain ⟨BF,BG,BH,BI,-,-,-⟩:=X1.Az;by_cases hlt:k<al.length
    case neg =>
     have hg:=AA (show SI p=true by
      unfold SI;rw [dK.out,XJ];exact nK al (fun a=>F6 p.faces a.1.left && F6 p.faces a.1.right) (fun j hj=>Qw.out j hj AB))
     have ho:=Hq.out;rw [hg.out] at ho;replace Hq:=AA ho;clear ho;go_wp2_with fail;refine (anS _ p _ (HP.out.mono (bT FP.out Hb2.out)) iF iF).mono ?_;rintro e w9 ⟨rfl,OM⟩;have B9:=bT (bT FP.out Hb2.out) OM
     cases h1:MP p
     case false =>
      have hf:=AA (show 11=q by rw [<- Hq.out];simp [h1]);clear h1;go_wp2;go_ret;exact ⟨Df hf.out,B9⟩
     case true =>
      have hf:=AA (show 0=q by rw [<- Hq.out];simp [h1]);clear h1;go_wp2;go_ret;exact ⟨Df hf.out,B9⟩
    obtain ⟨b,o,rfl,hlb,c0,c1,c2,c3,c4,c5⟩:=(GN.out.mono (bT FP.out Hb2.out)).ar hlt;have q1:0<=(k:Int):=by omega
    have q2:(k:Int)<al.length:=by omega
    have TF:∀ (n:Int) W,AU w W->Calls Tryz.prog 129 #[.agg #[vn,.slice (some ⟨b,o,none⟩) al.length ca,vf],.int .i64 n] W (fun e w'=>e=.returned (.bool (F6 p.faces n))/\AU W w'):=fun n W hW=>aoE _ p n W (HP.out.mono hW)
    cases h1:F6 p.faces al[k].1.left
    case false =>
     have TL:=TF al[k].1.left;rw [h1] at TL;have HT:=AA TL;have hg:=AA (show SI p=false by
      unfold SI;rw [dK.out,XJ];exact YX al (fun a=>F6 p.faces a.1.left && F6 p.faces a.1.right) k hlt (by simp [h1]))
     have hf:=AA (show 12=q by rw [<- Hq.out];simp [hg.out]);clear h1 TF TL;go_upto_region 18 with fail;refine DJ (wr) (.run 7 0 0 (.call 7 255 (.run 12 8 255 (.done)))) fun CU QR Ae Ah hS=>?_
     iterate 7 refine Aj ?_
     refine GL (HT.out _ (bT (bT FP.out Hb2.out) hS)) ?_;clear hS;intro CX CV hS
     iterate 2 refine Aj ?_
     iterate 9 refine Jh ?_
     refine Aj ?_;refine DF ?_;clear hS Ah Ae;intro hB;go_wp2;go_ret;exact ⟨Df hf.out,bT (bT FP.out Hb2.out) hB⟩
    case true =>
     have TL:=TF al[k].1.left;rw [h1] at TL;have HT:=AA TL;have HU:=AA (TF al[k].1.right);have H1:=AA h1;clear h1 TF TL;go_upto_region 18 with fail;refine DJ (wr) (.run 7 0 0 (.call 7 255 (.run 9 8 255 (.call 17 262143 (.take 18 524287 (.take 19 1048575 (.done))))))) fun CU QR Ae Ah hS=>?_
     iterate 7 refine Aj ?_
     refine GL (HT.out _ (bT (bT FP.out Hb2.out) hS)) ?_;clear hS;intro CX CV hS
     iterate 2 refine Aj ?_
     iterate 7 refine Du ?_
     refine GL (HU.out _ (bT (bT FP.out Hb2.out) hS)) ?_;clear hS;intro wr2 Fp hS;refine Du ?_;refine Aj ?_;refine DF ?_;clear hS Ah Ae;intro hB;have B3:=bT Hb2.out hB
     cases h2:F6 p.faces al[k].1.right
     case false =>
      have hg:=AA (show SI p=false by
       unfold SI;rw [dK.out,XJ];exact YX al (fun a=>F6 p.faces a.1.left && F6 p.faces a.1.right) k hlt (by simp [h2]))
      have hf:=AA (show 12=q by rw [<- Hq.out];simp [hg.out]);clear h2;go_wp2;go_ret;exact ⟨Df hf.out,bT FP.out B3⟩
     case true =>
      have hg:=AA (show (F6 p.faces al[k].1.left && F6 p.faces al[k].1.right)=true by rw [H1.out,h2];rfl);clear h2;go_wp2;go_roundw
      case rel => exact ⟨k+1,AB,BJ,B3,all_succ (p:=fun x=>(F6 p.faces x.1.left && F6 p.faces x.1.right)=true) Qw.out hlt hg.out⟩
      case measure => exact BL
  obtain ⟨b,o,rfl,hlb,c0,c1,c2,c3,c4,c5⟩:=(GN.out.mono (bT HB.out Hb.out)).ar hlt;have hvk:=(HV.out k hlt);obtain ⟨Av,cv,hv,-⟩:=hvk;have hvk:=(HV.out k hlt);rw [hv] at c3 hvk;generalize hvl:al[k].1.via.length=vl at c3;have tV:=AA hvl;have UH:=AA hvk;have q1:0<=(k:Int):=by omega
  have q2:(k:Int)<al.length:=by omega
  clear hvk hv hvl;have TL:∀ W,AU w W->Calls Tryz.prog 128 #[.agg #[vn,.slice (some ⟨b,o,none⟩) al.length ca,vf],.agg #[.int .i64 al[k].1.id,.int .i64 al[k].1.fr,.int .i64 al[k].1.dst,.slice Av vl cv,.int .i64 al[k].1.left,.int .i64 al[k].1.right]] W (ac9 W (AV p al[k].1) (JY p al[k].1)):=fun W hW=>by
   have:=acA _ _ p al[k].1 _ (HP.out.mono hW) (UH.out.mono hW) (DW.out _ (by rw [dK.out];exact Gh (BO hlt)))
   rw [tV.out] at this;exact this
  have HT:=AA TL;clear TL;go_upto_region 12 with fail;refine DJ (wr) (.run 6 0 0 (.call 6 127 (.run 5 7 127 (.done)))) fun CU QR Ae Ah hS=>?_
  iterate 6 refine Aj ?_
  refine Bj ?_;clear hS;intro K hK AQ;go_simp;refine (HT.out _ (bT (bT HB.out Hb.out) AQ.out)).mono ?_;rintro e CX ⟨v1,rfl,CV,ho1⟩;have hS:Since wr CX:=bT (w:=wr) AQ.out CV;clear AQ;refine hK.out _ _ hS (fun _=>?_);clear hK K
  try simp only [pu]
  iterate 5 refine Aj ?_
  refine DF ?_;clear hS Ah Ae;intro hB;have B3:=bT Hb.out hB
  cases h2:JY p al[k].1
  case false =>
   have hg:=AA (show p.AP.all (JY p)=false by
    rw [dK.out,XJ];exact YX al (fun a=>JY p a.1) k hlt h2)
   have hf:=AA (show 7=q by rw [<- Hq.out];simp [hg.out]);clear h2;go_wp2;go_ret;exact ⟨Df hf.out,bT HB.out B3⟩
  case true =>
   have hg:=AA h2;clear h2;go_wp2;go_roundw
   case rel => exact ⟨k+1,AB,BJ,B3,all_succ (p:=fun x=>JY p x.1=true) Hno.out hlt hg.out⟩
   case measure => exact BL
def hasB (l:List Int) (a:Ar):Bool:=l.any (fun y=>y == a.fr) && l.any (fun y=>y == a.dst)
def V4 (p:Pl) (l:List Int):Int :=
 if UJ (p.nodes.map (·.pt))=true then 8 else if p.AP.all (hasB l)=false then 7 else if SI p=false then 12 else 0
theorem anU (v u:Value) (p:Pl) (l:List Int) (w:World) (h:Ci w v p) (hu:Ints w u l) :
  Calls Tryz.prog 172 #[v,u] w fun e w'=>e=.returned (.int .i64 (V4 p l))/\AU w w':=by
 obtain ⟨_,_,vf,al,rfl,hpa,⟨An,cn,rfl,hn1,hn2,hR⟩,⟨⟨Aa,ca,rfl,ha1,ha2,FD⟩,hV⟩,hF⟩:=h;unfold maxLen at hn2 ha2;have HF:=AA hF;clear hF;have HU:=AA hu;clear hu;have HV:=AA hV;clear hV;have HR:=AA hR;clear hR;have GN:=AA FD;clear FD;have hc:V4 p l=if UJ (p.nodes.map (·.pt))=true then 8 else if al.all (fun a=>hasB l a.1)=false then 7 else if al.all (fun a=>F6 p.faces a.1.left && F6 p.faces a.1.right)=false then 12 else 0:=by
  unfold V4 SI;rw [hpa,XJ,XJ];rfl
 obtain ⟨q,hq⟩:=BN (V4 p l);rw [hq];rw [hc] at hq;have Hq:=AA hq;clear hq hc hpa;generalize p.nodes=nl at *;generalize p.faces=fl at *;go_enter Tryz.func172,Tryz.ntmps172;go_wp2_with fail;obtain ⟨W0,hW0⟩:=BR (w.alloc (.cells #[.slice An nl.length cn,.slice Aa al.length ca,vf] 26));have X1:AO W0 w.heap.size 26 #[.slice An nl.length cn,.slice Aa al.length ca,vf]:=by rw [hW0];exact AO.made rfl _ _
 have FN:AU w W0:=by rw [hW0];exact bA (bR w) _
 rw [<- hW0];have HX0:=AA X1;have HB0:=AA FN;clear hW0 X1 FN;go_loopw [18] (fun s wr=>∃ i:Nat,i<=nl.length/\s=.int .i64 i/\AU W0 wr/\∀ j k (hk:k<j) (hj:j<nl.length),j<i->¬ nl[j].pt=nl[k].pt) (fun s _=>nl.length-(intOf s).toNat)
 case atStart => exact ⟨0,Bv _,rfl,bR W0,fun _ _ _ _ h=>by omega⟩
 case round =>
  obtain ⟨i,hi,rfl,hb,hno⟩:=hrel;have Hb:=AA hb;have Hno:=AA hno;have X1:=HX0.out.keep hb;clear hb hno;obtain ⟨BF,BG,BH,BI,-,-,-⟩:=X1.Az;by_cases hlt:i<nl.length
  case pos =>
   obtain ⟨b,o,rfl,hlb,c0,c1,c2⟩:=(HR.out.mono (bT HB0.out Hb.out)).nd hlt;go_wp2_with fail;obtain ⟨W1,hW1⟩:=BR (wr.alloc (.cells #[.int .i64 nl[i].id,.int .i64 nl[i].pt.x,.int .i64 nl[i].pt.y] 45));have B1:AU W0 W1:=by rw [hW1];exact bA Hb.out _
   have X6:AO W1 wr.heap.size 45 #[.int .i64 nl[i].id,.int .i64 nl[i].pt.x,.int .i64 nl[i].pt.y]:=by rw [hW1];exact AO.made rfl _ _
   rw [<- hW1];have IX:=AA X6;have HB1:=AA B1;clear c0 c1 c2 hlb hW1 X1 BF BG BH BI X6 B1;obtain ⟨wo,rfl⟩:=BR wr;go_loopw [28] (fun s wx=>∃ k:Nat,k<=i/\s=.int .i64 k/\AU W1 wx/\∀ m (hm:m<nl.length),m<k->¬ nl[i].pt=nl[m].pt) (fun s _=>i-(intOf s).toNat)
   case atStart => exact ⟨0,Bv _,rfl,bR W1,fun _ _ h=>by omega⟩
   case round =>
    obtain ⟨k,hk,rfl,hb,Vl⟩:=hrel;have Hb2:=AA hb;have Qw:=AA Vl;have X6:=IX.out.keep hb;clear hb Vl;by_cases hlk:k<i
    case neg =>
     have HN:=AA (show ∀ j m (hm:m<j) (hj:j<nl.length),j<i+1->¬ nl[j].pt=nl[m].pt from fun j m hm hj hji=>by
      by_cases e:j<i
      · exact Hno.out j m hm hj e
      ·have:j=i:=by omega
       subst this;exact Qw.out m AB AB)
     go_wp2;go_roundw
     case rel => exact ⟨i+1,AB,BJ,bT HB1.out Hb2.out,HN.out⟩
     case measure => exact BL
    have hkl:k<nl.length:=by omega
    obtain ⟨b',o',Eo,hlb,c0,c1,c2⟩:=(HR.out.mono (bT HB0.out (bT HB1.out Hb2.out))).nd hkl;simp only [JM,Addr.mk.injEq,and_true] at Eo;obtain ⟨rfl,rfl⟩:=Eo;obtain ⟨EK,EL,EM,ML,-,-,-⟩:=X6.Az;have hE:=UF nl[i].pt nl[k].pt;by_cases he:nl[i].pt=nl[k].pt
    ·have hd:decide (nl[i].pt=nl[k].pt)=true:=JO he;have hf:=AA (show 8=q by rw [<- Hq.out,AZ (ac6 (nl.map (·.pt)) i k hlk (by simpa using hlt) (by simpa using he))]);clear he;go_wp2;go_ret;exact ⟨Df hf.out,bT HB0.out (bT HB1.out (bA Hb2.out _))⟩
    ·have hd:decide (nl[i].pt=nl[k].pt)=false:=Gg he;have He:=AA he;clear he;go_wp2;go_roundw
     case rel => exact ⟨k+1,AB,BJ,bA Hb2.out _,fun m hm hmk=>if e:m<k then Qw.out m hm e else by
       have:m=k:=by omega
       subst this;exact He.out⟩
     case measure => exact BL
  case neg =>
  have hd:=AA (ac7 (nl.map (·.pt)) (fun j m hm hj=>by
    have:=Hno.out j m hm (by simpa using hj) (by rw [Cj] at hj;omega)
    simpa using this))
  have ho:=Hq.out;rw [hd.out] at ho;simp only [Rq,if_false] at ho;replace Hq:=AA ho;clear ho hd;go_wp2_with fail;obtain ⟨wo,rfl⟩:=BR wr;have Dt:=AA X1;have FP:=AA (bT HB0.out Hb.out);clear X1 BF BG BH BI Hno;go_loopw [42] (fun s wr=>∃ k:Nat,k<=al.length/\s=.int .i64 k/\AU wo wr/\∀ j (hj:j<al.length),j<k->hasB l al[j].1=true) (fun s _=>al.length-(intOf s).toNat)
  case atStart => exact ⟨0,Bv _,rfl,bR wo,fun _ _ h=>by omega⟩
  case round =>
   obtain ⟨k,hk,rfl,hb,hno⟩:=hrel;have Hb2:=AA hb;have Hno:=AA hno;have X1:=Dt.out.keep hb;clear hb hno
   try clear BF BG BH BI
   obtain ⟨BF,BG,BH,BI,-,-,-⟩:=X1.Az;by_cases hlt:k<al.length
   case pos =>
    obtain ⟨b,o,rfl,hlb,c0,c1,c2,c3,c4,c5⟩:=(GN.out.mono (bT FP.out Hb2.out)).ar hlt;obtain ⟨Av,cv,hv,-⟩:=HV.out k hlt;rw [hv] at c3;clear hv;go_wp2_with fail;refine (aAo _ l _ _ (HU.out.mono (bA (bT FP.out Hb2.out) _))).mono ?_;rintro e w2 ⟨rfl,hb2⟩;have B2:=bT (bA Hb2.out _) hb2;have EY:AO w2 wr.heap.size 50 _:=(AO.made rfl _ _).keep hb2;clear hb2 c0 c1 c2 c3 c4 c5 hlb;obtain ⟨JD,JE,JF,dL,iV,iW,iY,-,-,-,-,-,-⟩:=EY.IW
    cases h1:l.any (fun y=>y == al[k].1.fr)
    case false =>
     have hg:=AA (YX al (fun a=>hasB l a.1) k hlt (by simp [hasB,h1]));have hf:=AA (show 7=q by rw [<- Hq.out,AZ hg.out]);clear h1;go_wp2;go_ret;exact ⟨Df hf.out,bT FP.out B2⟩
    have H1:=AA h1;clear h1;go_wp2_with fail;refine (aAo _ l _ _ (HU.out.mono (bT FP.out B2))).mono ?_;rintro e w3 ⟨rfl,hb3⟩;have B3:=bT B2 hb3;clear hb3 EY JD JE JF dL iV iW iY
    cases h1:l.any (fun y=>y == al[k].1.dst)
    case false =>
     have hg:=AA (YX al (fun a=>hasB l a.1) k hlt (by simp [hasB,h1]));have hf:=AA (show 7=q by rw [<- Hq.out,AZ hg.out]);clear h1;go_wp2;go_ret;exact ⟨Df hf.out,bT FP.out B3⟩
    have hg:=AA (show hasB l al[k].1=true by simp only [hasB,H1.out,h1];rfl);clear h1;go_wp2;go_roundw
    case rel => exact ⟨k+1,AB,BJ,B3,all_succ (p:=fun x=>hasB l x.1=true) Hno.out hlt hg.out⟩
    case measure => exact BL
   case neg =>
   have hd:=AA (nK al (fun a=>hasB l a.1) (fun j hj=>Hno.out j hj AB));have ho:=Hq.out;rw [hd.out] at ho;simp only [Bool.true_eq_false,if_false] at ho;replace Hq:=AA ho;clear ho hd;go_wp2_with fail;obtain ⟨wq,rfl⟩:=BR wr;replace Dt:=AA X1;replace FP:=AA (bT FP.out Hb2.out);clear X1 BF BG BH BI Hno Hb2;go_loopw [62] (fun s wr=>∃ k:Nat,k<=al.length/\s=.int .i64 k/\AU wq wr/\∀ j (hj:j<al.length),j<k->(F6 fl al[j].1.left && F6 fl al[j].1.right)=true) (fun s _=>al.length-(intOf s).toNat)
   case atStart => exact ⟨0,Bv _,rfl,bR wq,fun _ _ h=>by omega⟩
   case round =>
    obtain ⟨k,hk,rfl,hb,hno⟩:=hrel;have Hb2:=AA hb;have Hno:=AA hno;have X1:=Dt.out.keep hb;clear hb hno
    try clear BF BG BH BI
    obtain ⟨BF,BG,BH,BI,-,-,-⟩:=X1.Az;by_cases hlt:k<al.length
    case neg =>
     have hd:=AA (nK al (fun a=>F6 fl a.1.left && F6 fl a.1.right) (fun j hj=>Hno.out j hj AB));have hf:=AA (show 0=q by rw [<- Hq.out,hd.out];rfl);go_wp2;go_ret;exact ⟨Df hf.out,bT FP.out Hb2.out⟩
    obtain ⟨b,o,rfl,hlb,c0,c1,c2,c3,c4,c5⟩:=(GN.out.mono (bT FP.out Hb2.out)).ar hlt;obtain ⟨Av,cv,hv,-⟩:=HV.out k hlt;rw [hv] at c3;clear hv;go_wp2_with fail;obtain ⟨W5,IY⟩:=BR (wr.alloc (.cells #[.int .i64 al[k].1.id,.int .i64 al[k].1.fr,.int .i64 al[k].1.dst,.slice Av al[k].1.via.length cv,.int .i64 al[k].1.left,.int .i64 al[k].1.right] 50));have WT:AU wr W5:=by rw [IY];exact bA (bR wr) _
    have Cm:=AA (bT Hb2.out WT);have DI:=AA (X1.keep WT);rw [<- IY];clear c0 c1 c2 c3 c4 c5 hlb IY WT X1 BF BG BH BI;obtain ⟨wp,rfl⟩:=BR wr;go_loopw [71] (fun s wx=>∃ j:Int,(j=0\/j=1\/j=2)/\s=.int .i64 j/\AU W5 wx/\(1<=j->F6 fl al[k].1.left=true)/\(2<=j->F6 fl al[k].1.right=true)) (fun s _=>2-(intOf s).toNat)
    case atStart => exact ⟨0,AB,rfl,bR W5,fun h=>by omega,fun h=>by omega⟩
    case round =>
     obtain ⟨j,hj,rfl,hb,hl,hr⟩:=hrel;have Hb3:=AA hb;have Hl:=AA hl;have Hr:=AA hr;clear hb hl hr;rcases hj with rfl | rfl | rfl
     ·have hI:∀ w,(Instr.index 116 (.agg #[.int .i64 al[k].1.left,.int .i64 al[k].1.right]) (.int .i64 0)).run Tryz.prog w=.ok (.int .i64 al[k].1.left) w:=fun _=>by kernel_rfl
      cases hz:(al[k].1.left != 0)
      case false =>
       have hg:=AA (show F6 fl al[k].1.left=true by
        have:al[k].1.left=0:=by simpa [bne_eq_false_iff_eq] using hz
        simp [F6,this])
       go_wp2;go_roundw
       case rel => exact ⟨1,AB,rfl,Hb3.out,fun h=>by first | exact hg.out | exact Hl.out AB,fun h=>by first | omega | exact hg.out⟩
       case measure => simp [intOf]
      have X1:=DI.out.keep Hb3.out
      try clear BF BG BH BI
      obtain ⟨BF,BG,BH,BI,-,-,-⟩:=X1.Az;go_wp2_with fail;refine (aAo _ fl _ _ (HF.out.mono (bT FP.out (bT Cm.out Hb3.out)))).mono ?_;rintro e w6 ⟨rfl,hb6⟩;have B6:=bT Hb3.out hb6;clear hb6 X1 BF BG BH BI
      cases h1:fl.any (fun y=>y == al[k].1.left)
      case false =>
       have hfc:=AA (show F6 fl al[k].1.left=false by
        have:¬ al[k].1.left=0:=by simpa using hz
        simp only [F6,h1];simpa using this)
       have hg:=AA (YX al (fun a=>F6 fl a.1.left && F6 fl a.1.right) k hlt (by simp [hfc.out]));have hf:=AA (show 12=q by rw [<- Hq.out,AZ hg.out]);clear h1;go_wp2;go_ret;exact ⟨Df hf.out,bT FP.out (bT Cm.out B6)⟩
      have hg:=AA (show F6 fl al[k].1.left=true by simp [F6,h1]);clear h1;go_wp2;go_roundw
      case rel => exact ⟨1,AB,rfl,B6,fun h=>by first | exact hg.out | exact Hl.out AB,fun h=>by first | omega | exact hg.out⟩
      case measure => simp [intOf]
     ·have hI:∀ w,(Instr.index 116 (.agg #[.int .i64 al[k].1.left,.int .i64 al[k].1.right]) (.int .i64 1)).run Tryz.prog w=.ok (.int .i64 al[k].1.right) w:=fun _=>by kernel_rfl
      cases hz:(al[k].1.right != 0)
      case false =>
       have hg:=AA (show F6 fl al[k].1.right=true by
        have:al[k].1.right=0:=by simpa [bne_eq_false_iff_eq] using hz
        simp [F6,this])
       go_wp2;go_roundw
       case rel => exact ⟨2,AB,rfl,Hb3.out,fun h=>by first | exact hg.out | exact Hl.out AB,fun h=>by first | omega | exact hg.out⟩
       case measure => simp [intOf]
      have X1:=DI.out.keep Hb3.out
      try clear BF BG BH BI
      obtain ⟨BF,BG,BH,BI,-,-,-⟩:=X1.Az;go_wp2_with fail;refine (aAo _ fl _ _ (HF.out.mono (bT FP.out (bT Cm.out Hb3.out)))).mono ?_;rintro e w6 ⟨rfl,hb6⟩;have B6:=bT Hb3.out hb6;clear hb6 X1 BF BG BH BI
      cases h1:fl.any (fun y=>y == al[k].1.right)
      case false =>
       have hfc:=AA (show F6 fl al[k].1.right=false by
        have:¬ al[k].1.right=0:=by simpa using hz
        simp only [F6,h1];simpa using this)
       have hg:=AA (YX al (fun a=>F6 fl a.1.left && F6 fl a.1.right) k hlt (by simp [hfc.out]));have hf:=AA (show 12=q by rw [<- Hq.out,AZ hg.out]);clear h1;go_wp2;go_ret;exact ⟨Df hf.out,bT FP.out (bT Cm.out B6)⟩
      have hg:=AA (show F6 fl al[k].1.right=true by simp [F6,h1]);clear h1;go_wp2;go_roundw
      case rel => exact ⟨2,AB,rfl,B6,fun h=>by first | exact hg.out | exact Hl.out AB,fun h=>by first | omega | exact hg.out⟩
      case measure => simp [intOf]
     ·have hg:=AA (show (F6 fl al[k].1.left && F6 fl al[k].1.right)=true by rw [Hl.out AB,Hr.out AB];rfl);go_wp2;go_roundw
      case rel => exact ⟨k+1,AB,BJ,bT Cm.out Hb3.out,all_succ (p:=fun x=>(F6 fl x.1.left && F6 fl x.1.right)=true) Hno.out hlt hg.out⟩
      case measure => exact BL
theorem anV:∃ i,Tryz.prog.info? 39=some i/\i.zero=some (.agg #[.int .i64 0,.int .i64 0])/\i.size=2/\i.bytes=16:=info_parts I8
theorem anW (n:Nat) (w:World) (h1:1<=n) (h2:n<=2097152) :
  Calls Tryz.prog 139 #[.slice none 0 0,.int .i64 n] w fun e w'=>∃ c,e=.returned (.slice (some ⟨w.heap.size,0,none⟩) 0 c)/\AU w w'/\Own w' w.heap.size 39 2 Ee (.slice (some ⟨w.heap.size,0,none⟩) 0 c) []:=by
 obtain ⟨i,hi,hz,hs,hb⟩:=anV;have hr:∀ ty,(Builtin.append_ #[46,3] ty #[.slice none 0 0,.int .i64 n]).run Tryz.prog w=_:=fun ty =>
  Lib.run_append_grow_zeros w 46 3 ty 39 i _ .i64 .i64 Tryz.underlying46 Tryz.underlying3 hi hz none 0 0 [] (by simpa using run_firstCells_none (P:=Tryz.prog) (w:=w.drew) i.size 0 0 0) n AB AB AB AB (by rw [hb];omega)
   (by rw [hb];exact growslice_fits AB AB)
 have hge:=grownCap_ge w (0+n) 0 39;have hle:=grownCap_le_maxLen w (0+n) 0 39 tC;have hle':=hle;unfold maxLen at hle';generalize hG:grownCap w (0+n) 0 39=G at *;have HR:=AA hr;have Hle:=AA hle;clear hr hG hle hi hz hs hb;simp only [Qm] at HR;have q1:¬ ((n:Int)<0):=by omega
 have q2:0<(n:Int):=by omega
 go_enter Tryz.func139,Tryz.ntmps139;go_wp2_with (at_builtin;refine Lib.wpList_append_run _ rfl _ _ _ _ rfl _ _ rfl rfl _ _ (HR.out _) ?_);go_ret;refine ⟨_,rfl,bA (bD (bR w)) _,?_⟩;refine ⟨rfl,.inr ⟨w.heap.size,_,_,rfl,Dc _,heap_alloc_new _ _,Bv _,Hle.out,?_,Ak⟩⟩;simp only [Array.size_append,List.size_toArray,LX,size_zeroCells];simp only [Value.cells,List.size_toArray,IU,LX];omega
structure PS where
 l:List Pt
 a:Option Addr
 c:Nat
def psC (x:PS):List Value:=[.slice x.a x.l.length x.c]
theorem Row.ps {w:World} {A:Option Addr} {l:List PS} (h:Row w A (l.flatMap psC)) {k:Nat} (hk:k<l.length) :
  ∃ b o,A=some ⟨b,o,none⟩/\b<w.heap.size/\w.cell? ⟨b,o+k,none⟩=some (.slice l[k].a l[k].l.length l[k].c):=by
 obtain ⟨b,o,hA,hb,hc⟩:=h.at_ (n:=1) (fun _=>rfl) hk AB;exact ⟨b,o,hA,hb,by simpa using hc 0 _ rfl⟩
def dM (L:List PS) (k:Nat):Nat:=((L.take k).flatMap (·.l)).length
theorem ah9 (L:List PS) (k:Nat) (hk:k<L.length):dM L (k+1)=dM L k+L[k].l.length:=by
 unfold dM;rw [F7 hk,LC,ER];simp
theorem anX (v:Value) (L:List PS) (w:World) (hv:Sl w v L.length (L.flatMap psC)) (hp:∀ k (hk:k<L.length),Dv w (.slice L[k].a L[k].l.length L[k].c) L[k].l)
  (hL:L.length<=1048576) (h1:1<=(L.flatMap (·.l)).length) (h2:(L.flatMap (·.l)).length<=2097152) :
  Calls Tryz.prog 75 #[v] w (agI w (L.flatMap (·.l))):=by
 obtain ⟨A,c,rfl,hn,hc,hR⟩:=hv;unfold maxLen at hc;have HP:=AA hp;clear hp;have HR:=AA hR;clear hR;have hb:∀ k,dM L k<=2097152:=fun k=>EH (uG L (·.l) k) h2;have MQ:=AA hb;clear hb;have H1:=AA h1;have H2:=AA h2;clear h1 h2;go_enter Tryz.func75,Tryz.ntmps75;go_wp2_with fail;go_loopw [3,11] (fun s i wr=>∃ k:Nat,k<=L.length/\i=.int .i64 k/\s=.int .i64 (dM L k:Nat)/\wr=w) (fun _ i _=>L.length-(intOf i).toNat)
 case atStart => exact ⟨0,Bv _,rfl,rfl,rfl⟩
 case round =>
  obtain ⟨k,hk,rfl,rfl,rfl⟩:=hrel;by_cases hlt:k<L.length
  case pos =>
   obtain ⟨b,o,rfl,hlb,c0⟩:=HR.out.ps hlt;have ht:=ah9 L k hlt;have hb:=MQ.out (k+1);have Ht:=AA ht;rw [ht] at hb;clear ht;go_wp2;go_roundw
   case rel => exact ⟨k+1,AB,BJ,by rw [Ht.out];go_num,trivial⟩
   case measure => exact BL
  have hE:L.take k=L:=IQ AB;have hN0:dM L k=(L.flatMap (·.l)).length:=by unfold dM;rw [hE]
  rw [hN0];have h1:=H1.out;have h2:=H2.out;clear hE hN0;generalize hN:(L.flatMap (·.l)).length=N at *;have HN:=AA hN;clear hN;go_wp2_with fail;refine (anW N _ h1 h2).mono ?_;rintro e w1 ⟨c1,rfl,hb1,hown⟩;have FC:=AA hown;have Hb1:=AA hb1;clear hown hb1 h1 h2;obtain ⟨wo,rfl⟩:=BR wr;go_wp2_with fail;go_loopw [6,27] (fun s i wr=>∃ k:Nat,k<=L.length/\i=.int .i64 k/\Own wr wo.heap.size 39 2 Ee s ((L.take k).flatMap (·.l))/\AU wo wr) (fun _ i _=>L.length-(intOf i).toNat)
  case atStart => exact ⟨0,Bv _,rfl,FC.out,Hb1.out⟩
  case round =>
   obtain ⟨k,hk,rfl,hown,hb⟩:=hrel;have Hb:=AA hb;replace FC:=AA hown;have hsz:=hb.size;clear hb hown;by_cases hlt:k<L.length
   case neg =>
    have hE:L.take k=L:=IQ AB;have ho:=FC.out;rw [hE] at ho;replace FC:=AA ho;clear ho hE;go_wp2;go_ret;exact ⟨_,rfl,Hb.out,FC.out⟩
   obtain ⟨b,o,rfl,hlb,c0⟩:=(HR.out.mono Hb.out).ps hlt;have hlen:=AA (show ((L.take k).flatMap (·.l)).length+L[k].l.length<=2097152 by
    have ht:=ah9 L k hlt;have:=MQ.out (k+1)
    show dM L k+L[k].l.length<=2097152
    omega)
   go_wp2_with
    (at_builtin
     refine FK _ rfl (.tmp 31) (.tmp 32) _ rfl (base:=wo.heap.size) L6 KJ L8 rfl FC.out rfl (l2:=L[k].l) ((HP.out k hlt).mono Hb.out) (by have:=hlen.out;omega) (by have:=hlen.out;omega) hsz ?_;intro v1 w1 hown1 hg hat;have N9:=AA (show AU wo w1 from bG Hb.out hg (fun g hk=>(FC.out.lt g hk).1));clear hg hat;have XV:=AA hown1;clear hown1)
   go_roundw
   case rel => exact ⟨k+1,AB,BJ,by rw [F7 hlt,LC];simpa using XV.out,N9.out⟩
   case measure => exact BL
theorem aBK (v:Value) (p:Pl) (id:Int) (w:World) (h:Ci w v p) (hsh:Short p) :
  Calls Tryz.prog 27 #[v,.int .i64 id] w (iR w (pathOf p id)):=by
 have HP:=AA h;have DW:=AA hsh;clear hsh;obtain ⟨vn,vr,vf,al,rfl,-⟩:=h;have TN:∀ id W,AU w W->Calls Tryz.prog 74 #[.agg #[vn,vr,vf],.int .i64 id] W _:=fun id W hW=>abw _ p id W (HP.out.mono hW);simp only [iP,uM] at TN;have HN:=AA TN;clear TN;obtain ⟨q,hq⟩:=BN (pathOf p id);rw [hq];have Hq:=AA hq;clear hq;go_enter Tryz.func27,Tryz.ntmps27;go_wp2_with fail;refine (ao8 _ p id _ (HP.out.mono (bA (bR w) _)) DW.out).mono ?_;rintro e w1 ⟨v1,rfl,hb1,hp1⟩;have Bw:AU w w1:=by
  exact EC
 have X2:AO _ (w.heap.size) 26 #[vn,vr,vf]:=AO.keep (by repeat (first | exact AO.made Ak _ _ | refine AO.alloc ?_ _)) hb1;clear hb1;have bZ:=AA hp1;obtain ⟨A1,c1,rfl,-⟩:=hp1;generalize hr:findAr p.AP id=r at *;have Hr:=AA hr;clear hr;obtain ⟨a,ha⟩:=BN (r.getD MJ);rw [ha] at bZ ⊢;obtain ⟨s,hs⟩:=BN r.isSome;rw [hs];have Ha:=AA ha;have Hs:=AA hs;clear ha hs;simp only [UQ];obtain ⟨BU,BX,Bg,CB,-,-,-⟩:=X2.Az;go_wp2_with fail;refine (HN.out _ _ (bA Bw _)).mono ?_;rintro e w2 ⟨rfl,hb2⟩;have X6:AO w2 w1.heap.size 50 #[.int .i64 a.id,.int .i64 a.fr,.int .i64 a.dst,.slice A1 a.via.length c1,.int .i64 a.left,.int .i64 a.right]:=(AO.made rfl _ _).keep hb2;replace X2:=(X2.alloc _).keep hb2;have HP2:=AA ((bZ.out.mono (bA (bR w1) _)).mono hb2);replace Bw:=bT (bA Bw _) hb2;clear hb2;obtain ⟨n1,hn1⟩:=BN ((J3 p.nodes a.fr).getD nd0);rw [hn1];obtain ⟨s1,hs1⟩:=BN ((J3 p.nodes a.fr).isSome);rw [hs1];have nD:=AA hn1;have bW:=AA hs1;clear hn1 hs1
 try clear BU BX Bg CB
 obtain ⟨BU,BX,Bg,CB,-,-,-⟩:=X2.Az;obtain ⟨EK,EL,EM,ML,QM,dN,dO,-,-,-,-,-,-⟩:=X6.IW;go_wp2_with fail;refine (HN.out _ _ (bA Bw _)).mono ?_;rintro e w3 ⟨rfl,hb3⟩;have X8:AO w3 w2.heap.size 45 #[.int .i64 n1.id,.int .i64 n1.pt.x,.int .i64 n1.pt.y]:=(AO.made rfl _ _).keep hb3;replace X2:=(X2.alloc _).keep hb3;replace X6:=(X6.alloc _).keep hb3;have UM:=AA ((HP2.out.mono (bA (bR w2) _)).mono hb3);replace Bw:=bT (bA Bw _) hb3;clear hb3;obtain ⟨n2,hn2⟩:=BN ((J3 p.nodes a.dst).getD nd0);rw [hn2];obtain ⟨s2,hs2⟩:=BN ((J3 p.nodes a.dst).isSome);rw [hs2];have nG:=AA hn2;have bY:=AA hs2;clear hn2 hs2
 try clear BU BX Bg CB
 obtain ⟨BU,BX,Bg,CB,-,-,-⟩:=X2.Az
 try clear EK EL EM ML QM dN dO
 obtain ⟨EK,EL,EM,ML,QM,dN,dO,-,-,-,-,-,-⟩:=X6.IW;obtain ⟨OI,OY,OZ,aAr,-,-,-⟩:=X8.Az;go_upto_region 4 with fail;obtain ⟨W4,aBL⟩:=BR (w3.alloc (.cells #[.int .i64 n2.id,.int .i64 n2.pt.x,.int .i64 n2.pt.y] 45));have EY:AO W4 w3.heap.size 45 #[.int .i64 n2.id,.int .i64 n2.pt.x,.int .i64 n2.pt.y]:=by rw [aBL];exact AO.made rfl _ _
 have hb4:AU w3 W4:=by rw [aBL];exact bA (bR w3) _
 rw [<- aBL];clear aBL;replace X2:=X2.keep hb4;replace X6:=X6.keep hb4;replace X8:=X8.keep hb4;have iZ:=AA (UM.out.mono hb4);replace Bw:=bT Bw hb4;clear hb4
 try clear BU BX Bg CB
 obtain ⟨BU,BX,Bg,CB,-,-,-⟩:=X2.Az
 try clear EK EL EM ML QM dN dO
 obtain ⟨EK,EL,EM,ML,QM,dN,dO,-,-,-,-,-,-⟩:=X6.IW
 try clear OI OY OZ aAr
 obtain ⟨OI,OY,OZ,aAr,-,-,-⟩:=X8.Az;obtain ⟨JD,JE,JF,dL,-,-,-⟩:=EY.Az;go_cut [41] (fun u wx=>u=.bool (!(s && (s1 && s2)))/\wx=W4)
 case first =>
  cases s<;>cases s1<;>cases s2
  all_goals
   go_wp2;go_meet
   case rel => exact ⟨rfl,rfl⟩
 case rest =>
  obtain ⟨rfl,rfl⟩:=hcut
  cases hsb:(s && (s1 && s2))
  case false =>
   have hf:=AA (show q=none by
    rw [<- Hq.out,pathOf,Hr.out]
    cases r with
    | none=>rfl
    | some a0 =>
     have h1:=Hs.out;have h2:=Ha.out;simp only [VP,H9] at h1 h2;subst h1 h2;simp only [JY,bW.out,bY.out];simpa using hsb)
   clear hsb;go_wp2_with fail;go_ret2;exact ⟨none,0,by rw [hf.out];rfl,Bw,by rw [hf.out];exact Own.nil _ _ _ _ _⟩
  case true =>
   have aBM:s=true/\s1=true/\s2=true:=by simpa using hsb
   have hf:=AA (show q=some (n1.pt::(a.via++[n2.pt]))/\a.via.length<=1048576 by
    rw [<- Hq.out,pathOf,Hr.out]
    cases r with
    | none=>have h1:=Hs.out;rw [aBM.1] at h1;cases h1
    | some a0 =>
     have h2:=Ha.out;simp only [H9] at h2;subst h2;refine ⟨?_,DW.out _ (aBD Hr.out)⟩;simp only [JY,bW.out,bY.out,aBM.2.1,aBM.2.2,Bool.and_self,if_true,AV,nodeAt,nD.out,nG.out])
   clear hsb aBM;go_wp2_with fail;have hlen:=AA hf.out.2;have hBa:AU w (((wc.alloc (.cells #[.int .i64 n1.pt.x,.int .i64 n1.pt.y] 39)).alloc (.cells #[.int .i64 n2.pt.x,.int .i64 n2.pt.y] 39)).alloc (.cells #[.slice (some ⟨wc.heap.size,0,none⟩) 1 1,.slice A1 a.via.length c1,.slice (some ⟨wc.heap.size+1,0,none⟩) 1 1] 46)):=bA (bA (bA Bw _) _) _;refine (anX _ [⟨[n1.pt],some ⟨wc.heap.size,0,none⟩,1⟩,⟨a.via,A1,c1⟩,⟨[n2.pt],some ⟨wc.heap.size+1,0,none⟩,1⟩] _ (Sl.lit (n:=3) (AO.made Ak _ _) rfl (DN AB)) ?_ Ak Ak ?_).mono ?_
   ·intro k hk;have hk:k<3:=hk;rcases k with _ | _ | _ | k
    · exact Dv.one (((AO.made rfl _ _).alloc _).alloc _)
    · exact iZ.out.mono (bA (bA (bA (bR wc) _) _) _)
    · exact Dv.one ((AO.made Ak _ _).alloc _)
    · omega
   ·have:=hlen.out
    simp only [KI,aah,ER,IU,LX];omega
   rintro e w5 ⟨v5,rfl,hb5,hown⟩;have Bz:=hBa.size;have ho:=hown.ES (b':=w.heap.size) Bz;have B5:=bT hBa hb5;simp only [KI,aah,JA,aau,Qj] at ho;have hf1:=hf.out.1;generalize n1.pt::(a.via++[n2.pt])=PL at ho hf1;have Hf1:=AA hf1;obtain ⟨A5,c5,rfl,-⟩:=Own.sl ho;have Ho:=AA ho;have Cm:=AA B5;clear hown ho B5 Bz hb5 hBa hf1;go_wp2_with fail;go_ret2;exact ⟨A5,c5,by rw [Hf1.out];rfl,Cm.out,by rw [Hf1.out];exact Ho.out⟩
