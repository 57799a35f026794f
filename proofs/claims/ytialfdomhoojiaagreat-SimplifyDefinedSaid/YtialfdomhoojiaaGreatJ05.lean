import Derived.Test.YtialfdomhoojiaaGreatJ04
import Derived.Lib.AppendZerosOnto
set_option linter.unusedSimpArgs false
set_option linter.unusedVariables false
set_option maxRecDepth 100000
set_option maxHeartbeats 8000000
namespace Go.Proofs.YtialfdomhoojiaaGreat
open Go.RowKit
def Iz {α:Type} (l:List α) (f:α->Bool) (g:α->α->Bool):Bool:=(List.range l.length).all fun i=>match l[i]? with
 | none=>true
 | some t=>f t && (l.take i).all fun s=>g s t
theorem adS {α:Type} (l:List α) (f:α->Bool) (g:α->α->Bool) (i:Nat) (hi:i<l.length) (h:f l[i]=false):Iz l f g=false:=by
 unfold Iz;rw [List.all_eq_false];exact ⟨i,List.mem_range.2 hi,by simp [avG hi,h]⟩
theorem adT {α:Type} (l:List α) (f:α->Bool) (g:α->α->Bool) (i k:Nat) (hk:k<i) (hi:i<l.length) (h:g (l[k]'(by omega)) l[i]=false):Iz l f g=false:=by
 unfold Iz;rw [List.all_eq_false];refine ⟨i,List.mem_range.2 hi,?_⟩;have:(l.take i).all (fun s=>g s l[i])=false:=by
  rw [List.all_eq_false];refine ⟨l[k]'(by omega),?_,by simp [h]⟩;rw [avI];exact ⟨k,by rw [awk];omega,by simp⟩
 simp [avG hi,this]
theorem adU {α:Type} (l:List α) (f:α->Bool) (g:α->α->Bool) (h1:∀ i (hi:i<l.length),f l[i]=true) (h2:∀ i k (hk:k<i) (hi:i<l.length),g (l[k]'(by omega)) l[i]=true):Iz l f g=true:=by
 unfold Iz;rw [awh];intro i hi;have hi:=List.mem_range.1 hi;rw [avG hi];simp only [avR];refine ⟨h1 i hi,awh.2 fun s hs=>?_⟩;obtain ⟨k,hk,rfl⟩:=avI.1 hs;rw [awk] at hk;have:=h2 i k Pe hi
 simpa using this
def tq (p:Pl) (s t:Sg):Bool:=if s.arc.id=t.arc.id then zl s t else sZ p s t
def rC (p:Pl):Bool:=Iz (Bh p) (vZ p) (tq p)
theorem aky (p:Pl) (hl:(p.aj.flatMap (·.via)).length<=1048576) (s:Sg) (hs:s∈Bh p):s.i<=2097152/\1<=s.n/\s.n<=2097152:=by
 unfold Bh at hs;obtain ⟨a,ha,hs⟩:=List.mem_flatMap.1 hs;unfold nY at hs;obtain ⟨k,hk,rfl⟩:=av6.1 hs;have hk:=List.mem_range.1 hk;rw [ig] at hk ⊢;obtain ⟨i,hi,rfl⟩:=avI.1 ha;have:=Zj p.aj (·.via) i hi
 simp only [];omega
theorem Row.sg {w:World} {A:Option Addr} {l:List (Sg×SV)} (h:Row w A (l.flatMap Fh)) {k:Nat} (hk:k<l.length) :
  ∃ b o,A=some ⟨b,o,none⟩/\b<w.heap.size/\w.cell? ⟨b,o+k*12,none⟩=some (.int .i64 l[k].1.arc.id)/\w.cell? ⟨b,o+k*12+1,none⟩=some (.int .i64 l[k].1.arc.fr)/\w.cell? ⟨b,o+k*12+2,none⟩=some (.int .i64 l[k].1.arc.dst)/\w.cell? ⟨b,o+k*12+3,none⟩=some (.slice l[k].2.a l[k].2.n l[k].2.c)/\w.cell? ⟨b,o+k*12+4,none⟩=some (.int .i64 l[k].1.arc.left)/\w.cell? ⟨b,o+k*12+5,none⟩=some (.int .i64 l[k].1.arc.right)/\w.cell? ⟨b,o+k*12+6,none⟩=some (.int .i64 l[k].1.i)/\w.cell? ⟨b,o+k*12+7,none⟩=some (.int .i64 l[k].1.n)/\w.cell? ⟨b,o+k*12+8,none⟩=some (.int .i64 l[k].1.a.x)/\w.cell? ⟨b,o+k*12+9,none⟩=some (.int .i64 l[k].1.a.y)/\w.cell? ⟨b,o+k*12+10,none⟩=some (.int .i64 l[k].1.b.x)/\w.cell? ⟨b,o+k*12+11,none⟩=some (.int .i64 l[k].1.b.y):=by
 obtain ⟨b,o,hA,hb,hc⟩:=h.at_ (n:=12) (fun _=>rfl) hk Pe;exact ⟨b,o,hA,hb,hc 0 _ rfl,hc 1 _ rfl,hc 2 _ rfl,hc 3 _ rfl,hc 4 _ rfl,hc 5 _ rfl,hc 6 _ rfl,hc 7 _ rfl,hc 8 _ rfl,hc 9 _ rfl,hc 10 _ rfl,hc 11 _ rfl⟩
theorem akz (v:Value) (p:Pl) (w:World) (h:bQ w v p) (hl1:p.aj.length<=4096) (hl2:(p.aj.flatMap (·.via)).length<=1048576) :
  Calls Tryz.prog 130 #[v] w fun e w'=>e=.returned (.bool (rC p))/\Below w.heap.size w w':=by
 have HP:=avE h;obtain ⟨vn,va,vf,al,rfl,-⟩:=h;have hok:=aky p hl2;have IB:=avE hok;clear hok;obtain ⟨q,hq⟩:∃ q,rC p=q:=⟨_,rfl⟩;rw [hq];have Hq:=avE hq;clear hq;have rD:=avE hl1;have HL2:=avE hl2;have Hbd:=avE (show (Bh p).length<=1052672 by unfold Bh;rw [adN];omega);clear hl1 hl2;go_enter Tryz.func130,Tryz.ntmps130;go_wp2_with fail;refine (akw _ p _ (HP.out.mono (bA (bR w) _)) rD.out HL2.out).mono ?_;rintro e w1 ⟨sl,v1,hsl,rfl,hb1,hown⟩;have Bw:Below w.heap.size w w1:=by
  exact eF
 have X2:ah _ (w.heap.size) 26 #[vn,va,vf]:=ah.keep (by repeat (first | exact ah.made ars _ _ | refine ah.alloc ?_ _)) hb1;clear hb1;have hsl2:=Own.sl hown;obtain ⟨A,c,rfl,hn1,hn2,hR⟩:=hsl2;unfold maxLen at hn2;have HR:=avE hR;have zu:=avE hsl;have hlen:sl.length<=1052672:=by have:=congrArg List.length hsl;rw [avM] at this;have:=Hbd.out;omega
 have dh:=avE X2;have HB:=avE Bw;clear X2 Bw hown hR hsl;have hin:∀ k (hk:k<sl.length),sl[k].1.i<=2097152/\1<=sl[k].1.n/\sl[k].1.n<=2097152:=fun k hk=>IB.out _ (by rw [<- zu.out];exact awd (avF hk));have P9:=avE hin;clear hin;have hF:∀ i (hi:i<sl.length),vZ p sl[i].1=false->q=false:=fun i hi h=>by
  rw [<- Hq.out,rC,<- zu.out];exact adS _ _ _ i avy (by simpa using h)
 have hG:∀ i k (hk:k<i) (hi:i<sl.length),tq p (sl[k]'(by omega)).1 sl[i].1=false->q=false:=fun i k hk hi h=>by
  rw [<- Hq.out,rC,<- zu.out];exact adT _ _ _ i k hk avy (by simpa using h)
 have hY:(∀ i (hi:i<sl.length),vZ p sl[i].1=true)->(∀ i k (hk:k<i) (hi:i<sl.length),tq p (sl[k]'(by omega)).1 sl[i].1=true)->q=true:=fun h1 h2=>by
  rw [<- Hq.out,rC,<- zu.out];refine adU _ _ _ (fun i hi=>?_) (fun i k hk hi=>?_)
  · have:=h1 i avy;simpa using this
  · have:=h2 i k hk avy;simpa using this
 have HF:=avE hF;have HG:=avE hG;have HY:=avE hY;clear hF hG hY;go_wp2_with fail;go_loopw [4] (fun u wr=>∃ i:Nat,i<=sl.length/\u=.int .i64 i/\Below w1.heap.size w1 wr/\(∀ j (hj:j<sl.length),j<i->vZ p sl[j].1=true)/\(∀ j k (hk:k<j) (hj:j<sl.length),j<i->tq p (sl[k]'(by omega)).1 sl[j].1=true)) (fun u _=>sl.length-(intOf u).toNat)
 case atStart => exact ⟨0,avK _,rfl,bR w1,fun _ _ h=>by omega,fun _ _ _ _ h=>by omega⟩
 case round =>
  obtain ⟨i,hi,rfl,hb,Qa,CS⟩:=hrel;have Hb:=avE hb;have Nq:=avE Qa;have Nr:=avE CS;have X2:=dh.out.keep hb;clear hb Qa CS;obtain ⟨aG,aI,aJ,aO,-,-,-⟩:=X2.aF;by_cases hlt:i<sl.length
  case neg =>
   have hf:=avE (HY.out (fun j hj=>Nq.out j hj Pe) (fun j k hk hj=>Nr.out j k hk hj Pe));go_wp2;go_ret;exact ⟨aY hf.out.symm,bT HB.out Hb.out⟩
  obtain ⟨b,o,rfl,hlb,c0,c1,c2,c3,c4,c5,c6,c7,c8,c9,c10,c11⟩:=(HR.out.mono Hb.out).sg hlt;have q1:0<=(i:Int):=by omega
  have q2:(i:Int)<sl.length:=by omega
  have TA:∀ W,Below w.heap.size w W->Calls Tryz.prog 189 #[.agg #[vn,va,vf],vW sl[i].1 (.slice sl[i].2.a sl[i].2.n sl[i].2.c)] W _:=fun W hW=>akp _ p sl[i].1 sl[i].2.a sl[i].2.n sl[i].2.c W (HP.out.mono hW) (P9.out i hlt).1 (P9.out i hlt).2.2;unfold vW at TA;have HA:=avE TA;clear TA;go_upto_region 5 with fail;refine dH (wr) (.run 5 0 0 (.call 5 63 (.take 6 127 (.done)))) fun bZ QR aB aH hS=>?_
  iterate 5 refine aC ?_
  refine fV (HA.out _ (bT (bT HB.out Hb.out) hS)) ?_;clear hS;intro cZ bW hS;refine aC ?_;refine dB ?_;clear hS aH aB;intro hB;have Bi:Below w1.heap.size w1 cZ:=bT Hb.out hB
  cases ha:vZ p sl[i].1
  case false =>
   have hf:=avE (HF.out i hlt ha);clear ha;go_wp2;go_ret;exact ⟨aY hf.out.symm,bT HB.out Bi⟩
  have Ha:=avE ha;have HBi:=avE Bi;clear ha Bi hB c0 c1 c2 c3 c4 c5 c6 c7 c8 c9 c10 c11 hlb X2 aG aI aJ aO HA;simp only [Bool.not_true];go_wp2_with fail;obtain ⟨wo,rfl⟩:∃ wo:World,wo=wr:=⟨_,rfl⟩;go_loopw [5] (fun u wr=>∃ k:Nat,k<=i/\u=.int .i64 k/\Below w1.heap.size w1 wr/\∀ j (hj:j<sl.length),j<k->tq p sl[j].1 sl[i].1=true) (fun u _=>i-(intOf u).toNat)
  case atStart => exact ⟨0,avK _,rfl,HBi.out,fun _ _ h=>by omega⟩
  case round =>
   obtain ⟨k,hk,rfl,hb,hno⟩:=hrel;have Hb2:=avE hb;have ZG:=avE hno;have X2:=dh.out.keep hb;clear hb hno
   try clear aG
   try clear aI
   try clear aJ
   try clear aO
   obtain ⟨aG,aI,aJ,aO,-,-,-⟩:=X2.aF;by_cases hki:k<i
   case neg =>
    have Ik:=avE (all_succ (p:=fun x=>vZ p x.1=true) Nq.out hlt Ha.out);have Il:Hid (∀ j m (hm:m<j) (hj:j<sl.length),j<i+1->tq p (sl[m]'(by omega)).1 sl[j].1=true):=avE fun j m hm hj hji=>by
     by_cases e:j<i
     · exact Nr.out j m hm hj e
     ·have:j=i:=by omega
      subst this;exact ZG.out m Pe Pe
    go_wp2;go_roundw
    case rel => exact ⟨i+1,by omega,by go_num,Hb2.out,Ik.out,Il.out⟩
    case measure => simp [intOf];omega
   have hkl:k<sl.length:=by omega
   obtain ⟨b',o',jK,hlb,c0,c1,c2,c3,c4,c5,c6,c7,c8,c9,c10,c11⟩:=(HR.out.mono Hb2.out).sg hlt;simp only [Option.some.injEq,Addr.mk.injEq,and_true] at jK;obtain ⟨rfl,rfl⟩:=jK;obtain ⟨b',o',jK,-,d0,d1,d2,d3,d4,d5,d6,d7,d8,d9,d10,d11⟩:=(HR.out.mono Hb2.out).sg hkl;simp only [Option.some.injEq,Addr.mk.injEq,and_true] at jK;obtain ⟨rfl,rfl⟩:=jK;have r1:0<=(k:Int):=by omega
   have r2:(k:Int)<sl.length:=by omega
   have TA:∀ W,Calls Tryz.prog 190 #[vW sl[k].1 (.slice sl[k].2.a sl[k].2.n sl[k].2.c),vW sl[i].1 (.slice sl[i].2.a sl[i].2.n sl[i].2.c)] W _:=fun W=>apart_spec sl[k].1 sl[i].1 sl[k].2.a sl[i].2.a sl[k].2.n sl[i].2.n sl[k].2.c sl[i].2.c W (P9.out k hkl).1 (P9.out i hlt).2.2 (P9.out i hlt).2.1;have TJ:∀ W,Below w.heap.size w W->Calls Tryz.prog 191 #[.agg #[vn,va,vf],vW sl[k].1 (.slice sl[k].2.a sl[k].2.n sl[k].2.c),vW sl[i].1 (.slice sl[i].2.a sl[i].2.n sl[i].2.c)] W _:=fun W hW=>ako _ p sl[k].1 sl[i].1 sl[k].2.a sl[i].2.a sl[k].2.n sl[i].2.n sl[k].2.c sl[i].2.c W (HP.out.mono hW);unfold vW at TA TJ;have HJ:=avE TJ;clear TJ
   cases hid:(sl[k].1.arc.id == sl[i].1.arc.id)
   case true =>
    have hpr:tq p sl[k].1 sl[i].1=zl sl[k].1 sl[i].1:=by unfold tq;rw [if_pos (eq_of_beq hid)]
    have akA:(sl[k].1.arc.id != sl[i].1.arc.id)=false:=by simp [bne,hid]
    have Qb:=avE hpr;clear hpr
    cases ha:zl sl[k].1 sl[i].1
    case false =>
     rw [ha] at TA;have HA:=avE TA;have hf:=avE (HG.out i k hki hlt (Qb.out.trans ha));clear TA ha;go_upto_region 10 with fail;refine dH (wr) (.run 22 0 0 (.call 22 8388607 (.run 30 23 8388607 (.done)))) fun bZ QR aB aH hS=>?_
     iterate 14 refine aC ?_
     iterate 8 refine dN ?_
     refine fV (HA.out _) ?_;clear hS;intro cZ bW hS;refine dN ?_
     iterate 2 refine aC ?_
     iterate 26 refine jC ?_
     refine aC ?_;refine dB ?_;clear hS aH aB;intro hB;have B3:Below w1.heap.size w1 cZ:=bT Hb2.out hB;go_wp2;go_ret;exact ⟨aY hf.out.symm,bT HB.out B3⟩
    case true =>
     rw [ha] at TA;have HA:=avE TA;have hg:=avE (Qb.out.trans ha);clear TA ha;go_upto_region 10 with fail;refine dH (wr) (.run 22 0 0 (.call 22 8388607 (.run 30 23 8388607 (.done)))) fun bZ QR aB aH hS=>?_
     iterate 14 refine aC ?_
     iterate 8 refine dN ?_
     refine fV (HA.out _) ?_;clear hS;intro cZ bW hS;refine dN ?_
     iterate 2 refine aC ?_
     iterate 14 refine dN ?_
     iterate 11 refine jC ?_
     refine dN ?_;refine aC ?_;refine dB ?_;clear hS aH aB;intro hB;have B3:Below w1.heap.size w1 cZ:=bT Hb2.out hB;go_wp2;go_roundw
     case rel => exact ⟨k+1,by omega,by go_num,B3,all_succ (p:=fun x=>tq p x.1 sl[i].1=true) ZG.out hkl hg.out⟩
     case measure => simp [intOf];omega
   case false =>
    have hpr:tq p sl[k].1 sl[i].1=sZ p sl[k].1 sl[i].1:=by unfold tq;rw [if_neg (ne_of_beq_false hid)]
    have akA:(sl[k].1.arc.id != sl[i].1.arc.id)=true:=by simp [bne,hid]
    have Qb:=avE hpr;clear hpr TA;go_upto_region 10 with fail;refine dH (wr) (.run 49 0 0 (.call 49 1125899906842623 (.run 3 50 1125899906842623 (.done)))) fun bZ QR aB aH hS=>?_
    iterate 14 refine aC ?_
    iterate 10 refine jC ?_
    iterate 2 refine aC ?_
    iterate 23 refine dN ?_
    refine fV (HJ.out _ (bT (bT HB.out Hb2.out) hS)) ?_;clear hS;intro cZ bW hS
    iterate 2 refine dN ?_
    refine aC ?_;refine dB ?_;clear hS aH aB;intro hB;have B3:Below w1.heap.size w1 cZ:=bT Hb2.out hB
    cases ha:sZ p sl[k].1 sl[i].1
    case false =>
     have hf:=avE (HG.out i k hki hlt (Qb.out.trans ha));clear ha;go_wp2;go_ret;exact ⟨aY hf.out.symm,bT HB.out B3⟩
    case true =>
     have hg:=avE (Qb.out.trans ha);clear ha;go_wp2;go_roundw
     case rel => exact ⟨k+1,by omega,by go_num,B3,all_succ (p:=fun x=>tq p x.1 sl[i].1=true) ZG.out hkl hg.out⟩
     case measure => simp [intOf];omega
def wu (p:Pl):Bool:=sV (p.nodes.map (·.id)) && sV (p.aj.map (·.id)) && sV p.faces
def Bj (p:Pl):Bool:=p.aj.all fun a=>iy p.faces a.left && iy p.faces a.right
def nZ (p:Pl):Int :=
 if nC p=true then 3 else if wu p=false then 10 else if qZ p=false then 2 else if y8 (p.nodes.map (·.pt))=true then 8
 else if p.aj.all (jD p)=false then 7 else if Bj p=false then 12 else if rC p=false then 11 else 0
theorem adV {α β:Type} (l:List α) (f:α->List β) (n:Nat) (h:∀ a∈l,(f a).length<=n):(l.flatMap f).length<=l.length*n:=by
 induction l with
 | nil=>simp
 | cons a l ih =>
  simp only [av5,avL,avO,Nat.succ_mul];have:=h a ars
  have:=ih fun b hb=>h b (by simp [hb])
  omega
theorem UQ {p:Pl} (h:nC p=false):(∀ a∈p.aj,a.via.length<=64)/\p.nodes.length<=256/\p.aj.length<=256/\p.faces.length<=64/\(p.aj.flatMap (·.via)).length<=16384:=by
 unfold nC at h;simp only [Bool.or_eq_false_iff,avX,List.any_eq_false,avQ] at h;obtain ⟨h1,⟨h2,h3⟩,h4⟩:=h;have h5:∀ a∈p.aj,a.via.length<=64:=fun a ha=>by have:=h1 a ha;omega
 have h6:=adV p.aj (·.via) 64 h5;refine ⟨h5,by omega,by omega,by omega,by omega⟩
theorem adW (v:Value) (p:Pl) (w:World) (h:bQ w v p) :
  Calls Tryz.prog 65 #[v] w fun e w'=>e=.returned (.int .i64 (nZ p))/\Below w.heap.size w w':=by
 have HP:=avE h;obtain ⟨vn,_,vf,al,rfl,hpa,-,⟨⟨Aa,ca,rfl,ha1,ha2,gV⟩,hV⟩,hF⟩:=h;unfold maxLen at ha2;have HF:=avE hF;clear hF;have HV:=avE hV;clear hV;have jr:=avE gV;clear gV;have IC:=avE hpa;clear hpa;obtain ⟨q,hq⟩:∃ q,nZ p=q:=⟨_,rfl⟩;rw [hq];unfold nZ at hq;have Hq:=avE hq;clear hq;go_enter Tryz.func65,Tryz.ntmps65;go_wp2_with fail;refine (ajT _ p _ (HP.out.mono (bA (bR w) _))).mono ?_;rintro e w1 ⟨rfl,hb1⟩;have Bw:Below w.heap.size w w1:=by
  exact eF
 have X2:ah _ (w.heap.size) 26 #[vn,.slice Aa al.length ca,vf]:=ah.keep (by repeat (first | exact ah.made ars _ _ | refine ah.alloc ?_ _)) hb1;clear hb1;obtain ⟨aG,aI,aJ,aO,-,-,-⟩:=X2.aF
 cases hl:nC p
 case true =>
  have hf:=avE (show 3=q by rw [<- Hq.out,if_pos hl]);clear hl;go_wp2;go_ret;exact ⟨dL hf.out,Bw⟩
 have Hl:=avE (UQ hl);rw [hl] at Hq;replace Hq:=avE Hq.out;clear hl;have hsh:Short p:=fun a ha=>by have:=Hl.out.1 a ha;omega
 have iL:=avE hsh;clear hsh;go_wp2_with fail;refine (ady _ p _ (HP.out.mono Bw) avs).mono ?_;rintro e w2 ⟨v2,rfl,hb2,ho2⟩;replace Bw:=bT Bw hb2;replace X2:=X2.keep hb2;clear hb2
 try clear aG
 try clear aI
 try clear aJ
 try clear aO
 obtain ⟨aG,aI,aJ,aO,-,-,-⟩:=X2.aF;have hi2:=Own.sl ho2;go_wp2_with fail;refine (Zn _ _ _ hi2).mono ?_;rintro e w3 ⟨rfl,hb3⟩;replace Bw:=bT Bw hb3;replace X2:=X2.keep hb3;clear hb3
 try clear aG
 try clear aI
 try clear aJ
 try clear aO
 try clear aG
 try clear aI
 try clear aJ
 try clear aO
 obtain ⟨aG,aI,aJ,aO,-,-,-⟩:=X2.aF
 cases h1:sV (p.nodes.map (·.id))
 case false =>
  have hf:=avE (show 10=q by rw [<- Hq.out];simp [wu,h1]);clear h1;go_wp2;go_ret;exact ⟨dL hf.out,Bw⟩
 have H1:=avE h1;clear h1 hi2 ho2;go_wp2_with fail;refine (adz _ p _ (HP.out.mono Bw) avs).mono ?_;rintro e w4 ⟨v4,rfl,hb4,jI⟩;replace Bw:=bT Bw hb4;replace X2:=X2.keep hb4;clear hb4
 try clear aG
 try clear aI
 try clear aJ
 try clear aO
 obtain ⟨aG,aI,aJ,aO,-,-,-⟩:=X2.aF;have hi4:=Own.sl jI;go_wp2_with fail;refine (Zn _ _ _ hi4).mono ?_;rintro e w5 ⟨rfl,hb5⟩;replace Bw:=bT Bw hb5;replace X2:=X2.keep hb5;clear hb5
 try clear aG
 try clear aI
 try clear aJ
 try clear aO
 try clear aG
 try clear aI
 try clear aJ
 try clear aO
 obtain ⟨aG,aI,aJ,aO,-,-,-⟩:=X2.aF
 cases h1:sV (p.aj.map (·.id))
 case false =>
  have hf:=avE (show 10=q by rw [<- Hq.out];simp [wu,h1]);clear h1;go_wp2;go_ret;exact ⟨dL hf.out,Bw⟩
 have H2:=avE h1;clear h1 hi4 jI;go_wp2_with fail;refine (Zn _ _ _ (HF.out.mono Bw)).mono ?_;rintro e w6 ⟨rfl,hb6⟩;replace Bw:=bT Bw hb6;replace X2:=X2.keep hb6;clear hb6
 try clear aG
 try clear aI
 try clear aJ
 try clear aO
 try clear aG
 try clear aI
 try clear aJ
 try clear aO
 obtain ⟨aG,aI,aJ,aO,-,-,-⟩:=X2.aF
 cases h1:sV p.faces
 case false =>
  have hf:=avE (show 10=q by rw [<- Hq.out];simp [wu,h1]);clear h1;go_wp2;go_ret;exact ⟨dL hf.out,Bw⟩
 have ho:=Hq.out;rw [show wu p=true by simp [wu,H1.out,H2.out,h1]] at ho;replace Hq:=avE ho;clear h1 ho H1 H2;go_wp2_with fail;refine (akb _ p _ (HP.out.mono Bw) avs avs avs avs).mono ?_;rintro e w7 ⟨rfl,hb7⟩;replace Bw:=bT Bw hb7;replace X2:=X2.keep hb7;clear hb7
 try clear aG
 try clear aI
 try clear aJ
 try clear aO
 try clear aG
 try clear aI
 try clear aJ
 try clear aO
 obtain ⟨aG,aI,aJ,aO,-,-,-⟩:=X2.aF
 cases h1:qZ p
 case false =>
  have hf:=avE (show 2=q by rw [<- Hq.out];simp [h1]);clear h1;go_wp2;go_ret;exact ⟨dL hf.out,Bw⟩
 rw [h1] at Hq;replace Hq:=avE Hq.out;clear h1;go_wp2_with fail;refine (aj9 _ p _ (HP.out.mono Bw)).mono ?_;rintro e w8 ⟨rfl,hb8⟩;replace Bw:=bT Bw hb8;replace X2:=X2.keep hb8;clear hb8
 try clear aG
 try clear aI
 try clear aJ
 try clear aO
 try clear aG
 try clear aI
 try clear aJ
 try clear aO
 obtain ⟨aG,aI,aJ,aO,-,-,-⟩:=X2.aF
 cases h1:y8 (p.nodes.map (·.pt))
 case true =>
  have hf:=avE (show 8=q by rw [<- Hq.out];simp [h1]);clear h1;go_wp2;go_ret;exact ⟨dL hf.out,Bw⟩
 rw [h1] at Hq;replace Hq:=avE Hq.out;clear h1;have dh:=avE X2;have HB:=avE Bw;clear X2 aG aI aJ aO Bw;simp only [Bool.not_true];go_wp2_with fail;go_loopw [3] (fun i wr=>∃ k:Nat,k<=al.length/\i=.int .i64 k/\Below w8.heap.size w8 wr/\∀ j (hj:j<al.length),j<k->jD p al[j].1=true) (fun i _=>al.length-(intOf i).toNat)
 case atStart => exact ⟨0,avK _,rfl,bR w8,fun j _ h=>by omega⟩
 case round =>
  obtain ⟨k,hk,rfl,hb,hno⟩:=hrel;have Hb:=avE hb;have Hno:=avE hno;have X1:=dh.out.keep hb;clear hb hno;obtain ⟨aS,aT,aU,aW,-,-,-⟩:=X1.aF;by_cases hlt:k<al.length
  case neg =>
   have hg:=avE (show p.aj.all (jD p)=true by
    rw [IC.out,List.all_map];exact Nw al (fun a=>jD p a.1) (fun j hj=>Hno.out j hj Pe))
   have ho:=Hq.out;rw [hg.out] at ho;replace Hq:=avE ho;clear ho;go_wp2_with fail;obtain ⟨wo,rfl⟩:∃ wo:World,wo=wr:=⟨_,rfl⟩;have gq:=avE X1;have iT:=avE (bT HB.out Hb.out);clear X1 aS aT aU aW;go_loopw [6] (fun i wr=>∃ k:Nat,k<=al.length/\i=.int .i64 k/\Below wo.heap.size wo wr/\∀ j (hj:j<al.length),j<k->(iy p.faces al[j].1.left && iy p.faces al[j].1.right)=true) (fun i _=>al.length-(intOf i).toNat)
   case atStart => exact ⟨0,avK _,rfl,bR wo,fun j _ h=>by omega⟩
   case round =>
    obtain ⟨k,hk,rfl,hb,hno⟩:=hrel;have Hb2:=avE hb;have vV:=avE hno;have X1:=gq.out.keep hb;clear hb hno
    try clear aS
    try clear aT
    try clear aU
    try clear aW
    obtain ⟨aS,aT,aU,aW,-,-,-⟩:=X1.aF;by_cases hlt:k<al.length
    case neg =>
     have hg:=avE (show Bj p=true by
      unfold Bj;rw [IC.out,List.all_map];exact Nw al (fun a=>iy p.faces a.1.left && iy p.faces a.1.right) (fun j hj=>vV.out j hj Pe))
     have ho:=Hq.out;rw [hg.out] at ho;replace Hq:=avE ho;clear ho;go_wp2_with fail;refine (akz _ p _ (HP.out.mono (bT iT.out Hb2.out)) avs avs).mono ?_;rintro e w9 ⟨rfl,qh⟩;have B9:=bT (bT iT.out Hb2.out) qh
     cases h1:rC p
     case false =>
      have hf:=avE (show 11=q by rw [<- Hq.out];simp [h1]);clear h1;go_wp2;go_ret;exact ⟨dL hf.out,B9⟩
     case true =>
      have hf:=avE (show 0=q by rw [<- Hq.out];simp [h1]);clear h1;go_wp2;go_ret;exact ⟨dL hf.out,B9⟩
    obtain ⟨b,o,rfl,hlb,c0,c1,c2,c3,c4,c5⟩:=(jr.out.mono (bT iT.out Hb2.out)).ar hlt;have q1:0<=(k:Int):=by omega
    have q2:(k:Int)<al.length:=by omega
    have TF:∀ (n:Int) W,Below w.heap.size w W->Calls Tryz.prog 129 #[.agg #[vn,.slice (some ⟨b,o,none⟩) al.length ca,vf],.int .i64 n] W (fun e w'=>e=.returned (.bool (iy p.faces n))/\Below W.heap.size W w'):=fun n W hW=>ajS _ p n W (HP.out.mono hW)
    cases h1:iy p.faces al[k].1.left
    case false =>
     have TL:=TF al[k].1.left;rw [h1] at TL;have HT:=avE TL;have hg:=avE (show Bj p=false by
      unfold Bj;rw [IC.out,List.all_map];exact Fz al (fun a=>iy p.faces a.1.left && iy p.faces a.1.right) k hlt (by simp [h1]))
     have hf:=avE (show 12=q by rw [<- Hq.out];simp [hg.out]);clear h1 TF TL;go_upto_region 18 with fail;refine dH (wr) (.run 7 0 0 (.call 7 255 (.run 12 8 255 (.done)))) fun bZ QR aB aH hS=>?_
     iterate 7 refine aC ?_
     refine fV (HT.out _ (bT (bT iT.out Hb2.out) hS)) ?_;clear hS;intro cZ bW hS
     iterate 2 refine aC ?_
     iterate 9 refine jC ?_
     refine aC ?_;refine dB ?_;clear hS aH aB;intro hB;go_wp2;go_ret;exact ⟨dL hf.out,bT (bT iT.out Hb2.out) hB⟩
    case true =>
     have TL:=TF al[k].1.left;rw [h1] at TL;have HT:=avE TL;have HU:=avE (TF al[k].1.right);have H1:=avE h1;clear h1 TF TL;go_upto_region 18 with fail;refine dH (wr) (.run 7 0 0 (.call 7 255 (.run 9 8 255 (.call 17 262143 (.take 18 524287 (.take 19 1048575 (.done))))))) fun bZ QR aB aH hS=>?_
     iterate 7 refine aC ?_
     refine fV (HT.out _ (bT (bT iT.out Hb2.out) hS)) ?_;clear hS;intro cZ bW hS
     iterate 2 refine aC ?_
     iterate 7 refine dN ?_
     refine fV (HU.out _ (bT (bT iT.out Hb2.out) hS)) ?_;clear hS;intro wr2 iW hS;refine dN ?_;refine aC ?_;refine dB ?_;clear hS aH aB;intro hB;have B3:=bT Hb2.out hB
     cases h2:iy p.faces al[k].1.right
     case false =>
      have hg:=avE (show Bj p=false by
       unfold Bj;rw [IC.out,List.all_map];exact Fz al (fun a=>iy p.faces a.1.left && iy p.faces a.1.right) k hlt (by simp [h2]))
      have hf:=avE (show 12=q by rw [<- Hq.out];simp [hg.out]);clear h2;go_wp2;go_ret;exact ⟨dL hf.out,bT iT.out B3⟩
     case true =>
      have hg:=avE (show (iy p.faces al[k].1.left && iy p.faces al[k].1.right)=true by rw [H1.out,h2];rfl);clear h2;go_wp2;go_roundw
      case rel => exact ⟨k+1,by omega,by go_num,B3,all_succ (p:=fun x=>(iy p.faces x.1.left && iy p.faces x.1.right)=true) vV.out hlt hg.out⟩
      case measure => simp [intOf];omega
  obtain ⟨b,o,rfl,hlb,c0,c1,c2,c3,c4,c5⟩:=(jr.out.mono (bT HB.out Hb.out)).ar hlt;have hvk:=(HV.out k hlt);obtain ⟨Av,cv,hv,-⟩:=hvk;have hvk:=(HV.out k hlt);rw [hv] at c3 hvk;generalize hvl:al[k].1.via.length=vl at c3;have Pz:=avE hvl;have vN:=avE hvk;have q1:0<=(k:Int):=by omega
  have q2:(k:Int)<al.length:=by omega
  clear hvk hv hvl;have TL:∀ W,Below w.heap.size w W->Calls Tryz.prog 128 #[.agg #[vn,.slice (some ⟨b,o,none⟩) al.length ca,vf],.agg #[.int .i64 al[k].1.id,.int .i64 al[k].1.fr,.int .i64 al[k].1.dst,.slice Av vl cv,.int .i64 al[k].1.left,.int .i64 al[k].1.right]] W (Zr W (au p al[k].1) (jD p al[k].1)):=fun W hW=>by
   have:=Zt _ _ p al[k].1 _ (HP.out.mono hW) (vN.out.mono hW) (iL.out _ (by rw [IC.out];exact awd (avF hlt)))
   rw [Pz.out] at this;exact this
  have HT:=avE TL;clear TL;go_upto_region 12 with fail;refine dH (wr) (.run 6 0 0 (.call 6 127 (.run 5 7 127 (.done)))) fun bZ QR aB aH hS=>?_
  iterate 6 refine aC ?_
  refine bK ?_;clear hS;intro K hK ak;go_simp;refine (HT.out _ (bT (bT HB.out Hb.out) ak.out)).mono ?_;rintro e cZ ⟨v1,rfl,bW,ho1⟩;have hS:Since wr cZ:=bT (w:=wr) ak.out bW;clear ak;refine hK.out _ _ hS (fun _=>?_);clear hK K
  try simp only [pu]
  iterate 5 refine aC ?_
  refine dB ?_;clear hS aH aB;intro hB;have B3:=bT Hb.out hB
  cases h2:jD p al[k].1
  case false =>
   have hg:=avE (show p.aj.all (jD p)=false by
    rw [IC.out,List.all_map];exact Fz al (fun a=>jD p a.1) k hlt h2)
   have hf:=avE (show 7=q by rw [<- Hq.out];simp [hg.out]);clear h2;go_wp2;go_ret;exact ⟨dL hf.out,bT HB.out B3⟩
  case true =>
   have hg:=avE h2;clear h2;go_wp2;go_roundw
   case rel => exact ⟨k+1,by omega,by go_num,B3,all_succ (p:=fun x=>jD p x.1=true) Hno.out hlt hg.out⟩
   case measure => simp [intOf];omega
def hasB (l:List Int) (a:Ar):Bool:=l.any (fun y=>y == a.fr) && l.any (fun y=>y == a.dst)
def Bl (p:Pl) (l:List Int):Int :=
 if y8 (p.nodes.map (·.pt))=true then 8 else if p.aj.all (hasB l)=false then 7 else if Bj p=false then 12 else 0
theorem akB (v u:Value) (p:Pl) (l:List Int) (w:World) (h:bQ w v p) (hu:Ints w u l) :
  Calls Tryz.prog 172 #[v,u] w fun e w'=>e=.returned (.int .i64 (Bl p l))/\Below w.heap.size w w':=by
 obtain ⟨_,_,vf,al,rfl,hpa,⟨An,cn,rfl,hn1,hn2,hR⟩,⟨⟨Aa,ca,rfl,ha1,ha2,gV⟩,hV⟩,hF⟩:=h;unfold maxLen at hn2 ha2;have HF:=avE hF;clear hF;have HU:=avE hu;clear hu;have HV:=avE hV;clear hV;have HR:=avE hR;clear hR;have jr:=avE gV;clear gV;have hc:Bl p l=if y8 (p.nodes.map (·.pt))=true then 8 else if al.all (fun a=>hasB l a.1)=false then 7 else if al.all (fun a=>iy p.faces a.1.left && iy p.faces a.1.right)=false then 12 else 0:=by
  unfold Bl Bj;rw [hpa,List.all_map,List.all_map];rfl
 obtain ⟨q,hq⟩:∃ q,Bl p l=q:=⟨_,rfl⟩;rw [hq];rw [hc] at hq;have Hq:=avE hq;clear hq hc hpa;generalize p.nodes=nl at *;generalize p.faces=fl at *;go_enter Tryz.func172,Tryz.ntmps172;go_wp2_with fail;obtain ⟨W0,hW0⟩:∃ W0:World,W0=w.alloc (.cells #[.slice An nl.length cn,.slice Aa al.length ca,vf] 26):=⟨_,rfl⟩;have X1:ah W0 w.heap.size 26 #[.slice An nl.length cn,.slice Aa al.length ca,vf]:=by rw [hW0];exact ah.made rfl _ _
 have iq:Below w.heap.size w W0:=by rw [hW0];exact bA (bR w) _
 rw [<- hW0];have HX0:=avE X1;have HB0:=avE iq;clear hW0 X1 iq;go_loopw [18] (fun s wr=>∃ i:Nat,i<=nl.length/\s=.int .i64 i/\Below W0.heap.size W0 wr/\∀ j k (hk:k<j) (hj:j<nl.length),j<i->¬ nl[j].pt=nl[k].pt) (fun s _=>nl.length-(intOf s).toNat)
 case atStart => exact ⟨0,avK _,rfl,bR W0,fun _ _ _ _ h=>by omega⟩
 case round =>
  obtain ⟨i,hi,rfl,hb,hno⟩:=hrel;have Hb:=avE hb;have Hno:=avE hno;have X1:=HX0.out.keep hb;clear hb hno;obtain ⟨aS,aT,aU,aW,-,-,-⟩:=X1.aF;by_cases hlt:i<nl.length
  case pos =>
   obtain ⟨b,o,rfl,hlb,c0,c1,c2⟩:=(HR.out.mono (bT HB0.out Hb.out)).nd hlt;go_wp2_with fail;obtain ⟨W1,hW1⟩:∃ W1:World,W1=wr.alloc (.cells #[.int .i64 nl[i].id,.int .i64 nl[i].pt.x,.int .i64 nl[i].pt.y] 45):=⟨_,rfl⟩;have B1:Below W0.heap.size W0 W1:=by rw [hW1];exact bA Hb.out _
   have X6:ah W1 wr.heap.size 45 #[.int .i64 nl[i].id,.int .i64 nl[i].pt.x,.int .i64 nl[i].pt.y]:=by rw [hW1];exact ah.made rfl _ _
   rw [<- hW1];have pI:=avE X6;have HB1:=avE B1;clear c0 c1 c2 hlb hW1 X1 aS aT aU aW X6 B1;obtain ⟨wo,rfl⟩:∃ wo:World,wo=wr:=⟨_,rfl⟩;go_loopw [28] (fun s wx=>∃ k:Nat,k<=i/\s=.int .i64 k/\Below W1.heap.size W1 wx/\∀ m (hm:m<nl.length),m<k->¬ nl[i].pt=nl[m].pt) (fun s _=>i-(intOf s).toNat)
   case atStart => exact ⟨0,avK _,rfl,bR W1,fun _ _ h=>by omega⟩
   case round =>
    obtain ⟨k,hk,rfl,hb,CS⟩:=hrel;have Hb2:=avE hb;have vV:=avE CS;have X6:=pI.out.keep hb;clear hb CS;by_cases hlk:k<i
    case neg =>
     have HN:=avE (show ∀ j m (hm:m<j) (hj:j<nl.length),j<i+1->¬ nl[j].pt=nl[m].pt from fun j m hm hj hji=>by
      by_cases e:j<i
      · exact Hno.out j m hm hj e
      ·have:j=i:=by omega
       subst this;exact vV.out m Pe Pe)
     go_wp2;go_roundw
     case rel => exact ⟨i+1,by omega,by go_num,bT HB1.out Hb2.out,HN.out⟩
     case measure => simp [intOf];omega
    have hkl:k<nl.length:=by omega
    obtain ⟨b',o',jK,hlb,c0,c1,c2⟩:=(HR.out.mono (bT HB0.out (bT HB1.out Hb2.out))).nd hkl;simp only [Option.some.injEq,Addr.mk.injEq,and_true] at jK;obtain ⟨rfl,rfl⟩:=jK;obtain ⟨fO,fQ,gK,xU,-,-,-⟩:=X6.aF;have hE:=yT nl[i].pt nl[k].pt;by_cases he:nl[i].pt=nl[k].pt
    ·have hd:decide (nl[i].pt=nl[k].pt)=true:=avW he;have hf:=avE (show 8=q by rw [<- Hq.out,if_pos (Zl (nl.map (·.pt)) i k hlk (by simpa using hlt) (by simpa using he))]);clear he;go_wp2;go_ret;exact ⟨dL hf.out,bT HB0.out (bT HB1.out (bA Hb2.out _))⟩
    ·have hd:decide (nl[i].pt=nl[k].pt)=false:=avV he;have He:=avE he;clear he;go_wp2;go_roundw
     case rel => exact ⟨k+1,by omega,by go_num,bA Hb2.out _,fun m hm hmk=>if e:m<k then vV.out m hm e else by
       have:m=k:=by omega
       subst this;exact He.out⟩
     case measure => simp [intOf];omega
  case neg =>
  have hd:=avE (Zm (nl.map (·.pt)) (fun j m hm hj=>by
    have:=Hno.out j m hm (by simpa using hj) (by rw [avM] at hj;omega)
    simpa using this))
  have ho:=Hq.out;rw [hd.out] at ho;simp only [Bool.false_eq_true,if_false] at ho;replace Hq:=avE ho;clear ho hd;go_wp2_with fail;obtain ⟨wo,rfl⟩:∃ wo:World,wo=wr:=⟨_,rfl⟩;have gq:=avE X1;have iT:=avE (bT HB0.out Hb.out);clear X1 aS aT aU aW Hno;go_loopw [42] (fun s wr=>∃ k:Nat,k<=al.length/\s=.int .i64 k/\Below wo.heap.size wo wr/\∀ j (hj:j<al.length),j<k->hasB l al[j].1=true) (fun s _=>al.length-(intOf s).toNat)
  case atStart => exact ⟨0,avK _,rfl,bR wo,fun _ _ h=>by omega⟩
  case round =>
   obtain ⟨k,hk,rfl,hb,hno⟩:=hrel;have Hb2:=avE hb;have Hno:=avE hno;have X1:=gq.out.keep hb;clear hb hno
   try clear aS
   try clear aT
   try clear aU
   try clear aW
   obtain ⟨aS,aT,aU,aW,-,-,-⟩:=X1.aF;by_cases hlt:k<al.length
   case pos =>
    obtain ⟨b,o,rfl,hlb,c0,c1,c2,c3,c4,c5⟩:=(jr.out.mono (bT iT.out Hb2.out)).ar hlt;obtain ⟨Av,cv,hv,-⟩:=HV.out k hlt;rw [hv] at c3;clear hv;go_wp2_with fail;refine (UD _ l _ _ (HU.out.mono (bA (bT iT.out Hb2.out) _))).mono ?_;rintro e w2 ⟨rfl,hb2⟩;have B2:=bT (bA Hb2.out _) hb2;have gZ:ah w2 wr.heap.size 50 _:=(ah.made rfl _ _).keep hb2;clear hb2 c0 c1 c2 c3 c4 c5 hlb;obtain ⟨nD,nG,nH,IE,Kv,Kw,Ky,-,-,-,-,-,-⟩:=gZ.gX
    cases h1:l.any (fun y=>y == al[k].1.fr)
    case false =>
     have hg:=avE (Fz al (fun a=>hasB l a.1) k hlt (by simp [hasB,h1]));have hf:=avE (show 7=q by rw [<- Hq.out,if_pos hg.out]);clear h1;go_wp2;go_ret;exact ⟨dL hf.out,bT iT.out B2⟩
    have H1:=avE h1;clear h1;go_wp2_with fail;refine (UD _ l _ _ (HU.out.mono (bT iT.out B2))).mono ?_;rintro e w3 ⟨rfl,hb3⟩;have B3:=bT B2 hb3;clear hb3 gZ nD nG nH IE Kv Kw Ky
    cases h1:l.any (fun y=>y == al[k].1.dst)
    case false =>
     have hg:=avE (Fz al (fun a=>hasB l a.1) k hlt (by simp [hasB,h1]));have hf:=avE (show 7=q by rw [<- Hq.out,if_pos hg.out]);clear h1;go_wp2;go_ret;exact ⟨dL hf.out,bT iT.out B3⟩
    have hg:=avE (show hasB l al[k].1=true by simp only [hasB,H1.out,h1];rfl);clear h1;go_wp2;go_roundw
    case rel => exact ⟨k+1,by omega,by go_num,B3,all_succ (p:=fun x=>hasB l x.1=true) Hno.out hlt hg.out⟩
    case measure => simp [intOf];omega
   case neg =>
   have hd:=avE (Nw al (fun a=>hasB l a.1) (fun j hj=>Hno.out j hj Pe));have ho:=Hq.out;rw [hd.out] at ho;simp only [Bool.true_eq_false,if_false] at ho;replace Hq:=avE ho;clear ho hd;go_wp2_with fail;obtain ⟨wq,rfl⟩:∃ wq:World,wq=wr:=⟨_,rfl⟩;replace gq:=avE X1;replace iT:=avE (bT iT.out Hb2.out);clear X1 aS aT aU aW Hno Hb2;go_loopw [62] (fun s wr=>∃ k:Nat,k<=al.length/\s=.int .i64 k/\Below wq.heap.size wq wr/\∀ j (hj:j<al.length),j<k->(iy fl al[j].1.left && iy fl al[j].1.right)=true) (fun s _=>al.length-(intOf s).toNat)
   case atStart => exact ⟨0,avK _,rfl,bR wq,fun _ _ h=>by omega⟩
   case round =>
    obtain ⟨k,hk,rfl,hb,hno⟩:=hrel;have Hb2:=avE hb;have Hno:=avE hno;have X1:=gq.out.keep hb;clear hb hno
    try clear aS
    try clear aT
    try clear aU
    try clear aW
    obtain ⟨aS,aT,aU,aW,-,-,-⟩:=X1.aF;by_cases hlt:k<al.length
    case neg =>
     have hd:=avE (Nw al (fun a=>iy fl a.1.left && iy fl a.1.right) (fun j hj=>Hno.out j hj Pe));have hf:=avE (show 0=q by rw [<- Hq.out,hd.out];rfl);go_wp2;go_ret;exact ⟨dL hf.out,bT iT.out Hb2.out⟩
    obtain ⟨b,o,rfl,hlb,c0,c1,c2,c3,c4,c5⟩:=(jr.out.mono (bT iT.out Hb2.out)).ar hlt;obtain ⟨Av,cv,hv,-⟩:=HV.out k hlt;rw [hv] at c3;clear hv;go_wp2_with fail;obtain ⟨W5,kJ⟩:∃ W5:World,W5=wr.alloc (.cells #[.int .i64 al[k].1.id,.int .i64 al[k].1.fr,.int .i64 al[k].1.dst,.slice Av al[k].1.via.length cv,.int .i64 al[k].1.left,.int .i64 al[k].1.right] 50):=⟨_,rfl⟩;have Dc:Below wr.heap.size wr W5:=by rw [kJ];exact bA (bR wr) _
    have bC:=avE (bT Hb2.out Dc);have dF:=avE (X1.keep Dc);rw [<- kJ];clear c0 c1 c2 c3 c4 c5 hlb kJ Dc X1 aS aT aU aW;obtain ⟨wp,rfl⟩:∃ wp:World,wp=wr:=⟨_,rfl⟩;go_loopw [71] (fun s wx=>∃ j:Int,(j=0\/j=1\/j=2)/\s=.int .i64 j/\Below W5.heap.size W5 wx/\(1<=j->iy fl al[k].1.left=true)/\(2<=j->iy fl al[k].1.right=true)) (fun s _=>2-(intOf s).toNat)
    case atStart => exact ⟨0,by omega,rfl,bR W5,fun h=>by omega,fun h=>by omega⟩
    case round =>
     obtain ⟨j,hj,rfl,hb,hl,hr⟩:=hrel;have Hb3:=avE hb;have Hl:=avE hl;have Hr:=avE hr;clear hb hl hr;rcases hj with rfl | rfl | rfl
     ·have hI:∀ w,(Instr.index 116 (.agg #[.int .i64 al[k].1.left,.int .i64 al[k].1.right]) (.int .i64 0)).run Tryz.prog w=.ok (.int .i64 al[k].1.left) w:=fun _=>by kernel_rfl
      cases hz:(al[k].1.left != 0)
      case false =>
       have hg:=avE (show iy fl al[k].1.left=true by
        have:al[k].1.left=0:=by simpa [bne_eq_false_iff_eq] using hz
        simp [iy,this])
       go_wp2;go_roundw
       case rel => exact ⟨1,by omega,rfl,Hb3.out,fun h=>by first | exact hg.out | exact Hl.out Pe,fun h=>by first | omega | exact hg.out⟩
       case measure => simp [intOf]
      have X1:=dF.out.keep Hb3.out
      try clear aS
      try clear aT
      try clear aU
      try clear aW
      obtain ⟨aS,aT,aU,aW,-,-,-⟩:=X1.aF;go_wp2_with fail;refine (UD _ fl _ _ (HF.out.mono (bT iT.out (bT bC.out Hb3.out)))).mono ?_;rintro e w6 ⟨rfl,hb6⟩;have B6:=bT Hb3.out hb6;clear hb6 X1 aS aT aU aW
      cases h1:fl.any (fun y=>y == al[k].1.left)
      case false =>
       have hfc:=avE (show iy fl al[k].1.left=false by
        have:¬ al[k].1.left=0:=by simpa using hz
        simp only [iy,h1];simpa using this)
       have hg:=avE (Fz al (fun a=>iy fl a.1.left && iy fl a.1.right) k hlt (by simp [hfc.out]));have hf:=avE (show 12=q by rw [<- Hq.out,if_pos hg.out]);clear h1;go_wp2;go_ret;exact ⟨dL hf.out,bT iT.out (bT bC.out B6)⟩
      have hg:=avE (show iy fl al[k].1.left=true by simp [iy,h1]);clear h1;go_wp2;go_roundw
      case rel => exact ⟨1,by omega,rfl,B6,fun h=>by first | exact hg.out | exact Hl.out Pe,fun h=>by first | omega | exact hg.out⟩
      case measure => simp [intOf]
     ·have hI:∀ w,(Instr.index 116 (.agg #[.int .i64 al[k].1.left,.int .i64 al[k].1.right]) (.int .i64 1)).run Tryz.prog w=.ok (.int .i64 al[k].1.right) w:=fun _=>by kernel_rfl
      cases hz:(al[k].1.right != 0)
      case false =>
       have hg:=avE (show iy fl al[k].1.right=true by
        have:al[k].1.right=0:=by simpa [bne_eq_false_iff_eq] using hz
        simp [iy,this])
       go_wp2;go_roundw
       case rel => exact ⟨2,by omega,rfl,Hb3.out,fun h=>by first | exact hg.out | exact Hl.out Pe,fun h=>by first | omega | exact hg.out⟩
       case measure => simp [intOf]
      have X1:=dF.out.keep Hb3.out
      try clear aS
      try clear aT
      try clear aU
      try clear aW
      obtain ⟨aS,aT,aU,aW,-,-,-⟩:=X1.aF;go_wp2_with fail;refine (UD _ fl _ _ (HF.out.mono (bT iT.out (bT bC.out Hb3.out)))).mono ?_;rintro e w6 ⟨rfl,hb6⟩;have B6:=bT Hb3.out hb6;clear hb6 X1 aS aT aU aW
      cases h1:fl.any (fun y=>y == al[k].1.right)
      case false =>
       have hfc:=avE (show iy fl al[k].1.right=false by
        have:¬ al[k].1.right=0:=by simpa using hz
        simp only [iy,h1];simpa using this)
       have hg:=avE (Fz al (fun a=>iy fl a.1.left && iy fl a.1.right) k hlt (by simp [hfc.out]));have hf:=avE (show 12=q by rw [<- Hq.out,if_pos hg.out]);clear h1;go_wp2;go_ret;exact ⟨dL hf.out,bT iT.out (bT bC.out B6)⟩
      have hg:=avE (show iy fl al[k].1.right=true by simp [iy,h1]);clear h1;go_wp2;go_roundw
      case rel => exact ⟨2,by omega,rfl,B6,fun h=>by first | exact hg.out | exact Hl.out Pe,fun h=>by first | omega | exact hg.out⟩
      case measure => simp [intOf]
     ·have hg:=avE (show (iy fl al[k].1.left && iy fl al[k].1.right)=true by rw [Hl.out Pe,Hr.out Pe];rfl);go_wp2;go_roundw
      case rel => exact ⟨k+1,by omega,by go_num,bT bC.out Hb3.out,all_succ (p:=fun x=>(iy fl x.1.left && iy fl x.1.right)=true) Hno.out hlt hg.out⟩
      case measure => simp [intOf];omega
theorem akC:∃ i,Tryz.prog.info? 39=some i/\i.zero=some (.agg #[.int .i64 0,.int .i64 0])/\i.size=2/\i.bytes=16:=info_parts atF
theorem akD (n:Nat) (w:World) (h1:1<=n) (h2:n<=2097152) :
  Calls Tryz.prog 139 #[.slice none 0 0,.int .i64 n] w fun e w'=>∃ c,e=.returned (.slice (some ⟨w.heap.size,0,none⟩) 0 c)/\Below w.heap.size w w'/\Own w' w.heap.size 39 2 dU (.slice (some ⟨w.heap.size,0,none⟩) 0 c) []:=by
 obtain ⟨i,hi,hz,hs,hb⟩:=akC;have hr:∀ ty,(Builtin.append_ #[46,3] ty #[.slice none 0 0,.int .i64 n]).run Tryz.prog w=_:=fun ty =>
  Lib.run_append_grow_zeros w 46 3 ty 39 i _ .i64 .i64 Tryz.underlying46 Tryz.underlying3 hi hz none 0 0 [] (by simpa using run_firstCells_none (P:=Tryz.prog) (w:=w.drew) i.size 0 0 0) n Pe Pe Pe Pe (by rw [hb];omega)
   (by rw [hb];exact growslice_fits Pe Pe)
 have hge:=grownCap_ge w (0+n) 0 39;have hle:=grownCap_le_maxLen w (0+n) 0 39 (by unfold maxLen;omega);have hle':=hle;unfold maxLen at hle';generalize hG:grownCap w (0+n) 0 39=G at *;have HR:=avE hr;have Hle:=avE hle;clear hr hG hle hi hz hs hb;simp only [Nat.zero_add] at HR;have q1:¬ ((n:Int)<0):=by omega
 have q2:0<(n:Int):=by omega
 go_enter Tryz.func139,Tryz.ntmps139;go_wp2_with (at_builtin;refine Lib.wpList_append_run _ rfl _ _ _ _ rfl _ _ rfl rfl _ _ (HR.out _) ?_);go_ret;refine ⟨_,rfl,bA (bD (bR w)) _,?_⟩;refine ⟨rfl,.inr ⟨w.heap.size,_,_,rfl,awe _,heap_alloc_new _ _,avK _,Hle.out,?_,by simp⟩⟩;simp only [Array.size_append,List.size_toArray,avN,size_zeroCells];simp only [Value.cells,List.size_toArray,avO,avN];omega
structure PS where
 l:List Pt
 a:Option Addr
 c:Nat
def psC (x:PS):List Value:=[.slice x.a x.l.length x.c]
theorem Row.ps {w:World} {A:Option Addr} {l:List PS} (h:Row w A (l.flatMap psC)) {k:Nat} (hk:k<l.length) :
  ∃ b o,A=some ⟨b,o,none⟩/\b<w.heap.size/\w.cell? ⟨b,o+k,none⟩=some (.slice l[k].a l[k].l.length l[k].c):=by
 obtain ⟨b,o,hA,hb,hc⟩:=h.at_ (n:=1) (fun _=>rfl) hk Pe;exact ⟨b,o,hA,hb,by simpa using hc 0 _ rfl⟩
def IG (L:List PS) (k:Nat):Nat:=((L.take k).flatMap (·.l)).length
theorem adX (L:List PS) (k:Nat) (hk:k<L.length):IG L (k+1)=IG L k+L[k].l.length:=by
 unfold IG;rw [avH hk,List.flatMap_append,avL];simp
theorem akE (v:Value) (L:List PS) (w:World) (hv:Sl w v L.length (L.flatMap psC)) (hp:∀ k (hk:k<L.length),dM w (.slice L[k].a L[k].l.length L[k].c) L[k].l)
  (hL:L.length<=1048576) (h1:1<=(L.flatMap (·.l)).length) (h2:(L.flatMap (·.l)).length<=2097152) :
  Calls Tryz.prog 75 #[v] w (adv w (L.flatMap (·.l))):=by
 obtain ⟨A,c,rfl,hn,hc,hR⟩:=hv;unfold maxLen at hc;have HP:=avE hp;clear hp;have HR:=avE hR;clear hR;have hb:∀ k,IG L k<=2097152:=fun k=>avZ (PN L (·.l) k) h2;have Qc:=avE hb;clear hb;have H1:=avE h1;have H2:=avE h2;clear h1 h2;go_enter Tryz.func75,Tryz.ntmps75;go_wp2_with fail;go_loopw [3,11] (fun s i wr=>∃ k:Nat,k<=L.length/\i=.int .i64 k/\s=.int .i64 (IG L k:Nat)/\wr=w) (fun _ i _=>L.length-(intOf i).toNat)
 case atStart => exact ⟨0,avK _,rfl,rfl,rfl⟩
 case round =>
  obtain ⟨k,hk,rfl,rfl,rfl⟩:=hrel;by_cases hlt:k<L.length
  case pos =>
   obtain ⟨b,o,rfl,hlb,c0⟩:=HR.out.ps hlt;have ht:=adX L k hlt;have hb:=Qc.out (k+1);have Ht:=avE ht;rw [ht] at hb;clear ht;go_wp2;go_roundw
   case rel => exact ⟨k+1,by omega,by go_num,by rw [Ht.out];go_num,trivial⟩
   case measure => simp [intOf];omega
  have hE:L.take k=L:=List.take_of_length_le Pe;have hN0:IG L k=(L.flatMap (·.l)).length:=by unfold IG;rw [hE]
  rw [hN0];have h1:=H1.out;have h2:=H2.out;clear hE hN0;generalize hN:(L.flatMap (·.l)).length=N at *;have HN:=avE hN;clear hN;go_wp2_with fail;refine (akD N _ h1 h2).mono ?_;rintro e w1 ⟨c1,rfl,hb1,hown⟩;have gU:=avE hown;have Hb1:=avE hb1;clear hown hb1 h1 h2;obtain ⟨wo,rfl⟩:∃ wo:World,wo=wr:=⟨_,rfl⟩;go_wp2_with fail;go_loopw [6,27] (fun s i wr=>∃ k:Nat,k<=L.length/\i=.int .i64 k/\Own wr wo.heap.size 39 2 dU s ((L.take k).flatMap (·.l))/\Below wo.heap.size wo wr) (fun _ i _=>L.length-(intOf i).toNat)
  case atStart => exact ⟨0,avK _,rfl,gU.out,Hb1.out⟩
  case round =>
   obtain ⟨k,hk,rfl,hown,hb⟩:=hrel;have Hb:=avE hb;replace gU:=avE hown;have hsz:=hb.size;clear hb hown;by_cases hlt:k<L.length
   case neg =>
    have hE:L.take k=L:=List.take_of_length_le Pe;have ho:=gU.out;rw [hE] at ho;replace gU:=avE ho;clear ho hE;go_wp2;go_ret;exact ⟨_,rfl,Hb.out,gU.out⟩
   obtain ⟨b,o,rfl,hlb,c0⟩:=(HR.out.mono Hb.out).ps hlt;have hlen:=avE (show ((L.take k).flatMap (·.l)).length+L[k].l.length<=2097152 by
    have ht:=adX L k hlt;have:=Qc.out (k+1)
    show IG L k+L[k].l.length<=2097152
    omega)
   go_wp2_with
    (at_builtin
     refine iZ _ rfl (.tmp 31) (.tmp 32) _ rfl (base:=wo.heap.size) ng jS ni rfl gU.out rfl (l2:=L[k].l) ((HP.out k hlt).mono Hb.out) (by have:=hlen.out;omega) (by have:=hlen.out;omega) hsz ?_;intro v1 w1 hown1 hg hat;have oL:=avE (show Below wo.heap.size wo w1 from bG Hb.out hg (fun g hk=>(gU.out.lt g hk).1));clear hg hat;have vP:=avE hown1;clear hown1)
   go_roundw
   case rel => exact ⟨k+1,by omega,by go_num,by rw [avH hlt,List.flatMap_append];simpa using vP.out,oL.out⟩
   case measure => simp [intOf];omega
theorem Nz (v:Value) (p:Pl) (id:Int) (w:World) (h:bQ w v p) (hsh:Short p) :
  Calls Tryz.prog 27 #[v,.int .i64 id] w (Kq w (pathOf p id)):=by
 have HP:=avE h;have iL:=avE hsh;clear hsh;obtain ⟨vn,vr,vf,al,rfl,-⟩:=h;have TN:∀ id W,Below w.heap.size w W->Calls Tryz.prog 74 #[.agg #[vn,vr,vf],.int .i64 id] W _:=fun id W hW=>adi _ p id W (HP.out.mono hW);simp only [Nh,Pm] at TN;have HN:=avE TN;clear TN;obtain ⟨q,hq⟩:∃ q,pathOf p id=q:=⟨_,rfl⟩;rw [hq];have Hq:=avE hq;clear hq;go_enter Tryz.func27,Tryz.ntmps27;go_wp2_with fail;refine (adn _ p id _ (HP.out.mono (bA (bR w) _)) iL.out).mono ?_;rintro e w1 ⟨v1,rfl,hb1,hp1⟩;have Bw:Below w.heap.size w w1:=by
  exact eF
 have X2:ah _ (w.heap.size) 26 #[vn,vr,vf]:=ah.keep (by repeat (first | exact ah.made ars _ _ | refine ah.alloc ?_ _)) hb1;clear hb1;have Io:=avE hp1;obtain ⟨A1,c1,rfl,-⟩:=hp1;generalize hr:findAr p.aj id=r at *;have Hr:=avE hr;clear hr;obtain ⟨a,ha⟩:∃ a,r.getD jU=a:=⟨_,rfl⟩;rw [ha] at Io ⊢;obtain ⟨s,hs⟩:∃ s,r.isSome=s:=⟨_,rfl⟩;rw [hs];have Ha:=avE ha;have Hs:=avE hs;clear ha hs;simp only [jZ];obtain ⟨aG,aI,aJ,aO,-,-,-⟩:=X2.aF;go_wp2_with fail;refine (HN.out _ _ (bA Bw _)).mono ?_;rintro e w2 ⟨rfl,hb2⟩;have X6:ah w2 w1.heap.size 50 #[.int .i64 a.id,.int .i64 a.fr,.int .i64 a.dst,.slice A1 a.via.length c1,.int .i64 a.left,.int .i64 a.right]:=(ah.made rfl _ _).keep hb2;replace X2:=(X2.alloc _).keep hb2;have HP2:=avE ((Io.out.mono (bA (bR w1) _)).mono hb2);replace Bw:=bT (bA Bw _) hb2;clear hb2;obtain ⟨n1,hn1⟩:∃ n1,(mP p.nodes a.fr).getD nd0=n1:=⟨_,rfl⟩;rw [hn1];obtain ⟨s1,hs1⟩:∃ s1,(mP p.nodes a.fr).isSome=s1:=⟨_,rfl⟩;rw [hs1];have Nq:=avE hn1;have Ik:=avE hs1;clear hn1 hs1
 try clear aG
 try clear aI
 try clear aJ
 try clear aO
 obtain ⟨aG,aI,aJ,aO,-,-,-⟩:=X2.aF;obtain ⟨fO,fQ,gK,xU,II,IJ,IK,-,-,-,-,-,-⟩:=X6.gX;go_wp2_with fail;refine (HN.out _ _ (bA Bw _)).mono ?_;rintro e w3 ⟨rfl,hb3⟩;have X8:ah w3 w2.heap.size 45 #[.int .i64 n1.id,.int .i64 n1.pt.x,.int .i64 n1.pt.y]:=(ah.made rfl _ _).keep hb3;replace X2:=(X2.alloc _).keep hb3;replace X6:=(X6.alloc _).keep hb3;have wB:=avE ((HP2.out.mono (bA (bR w2) _)).mono hb3);replace Bw:=bT (bA Bw _) hb3;clear hb3;obtain ⟨n2,hn2⟩:∃ n2,(mP p.nodes a.dst).getD nd0=n2:=⟨_,rfl⟩;rw [hn2];obtain ⟨s2,hs2⟩:∃ s2,(mP p.nodes a.dst).isSome=s2:=⟨_,rfl⟩;rw [hs2];have Nr:=avE hn2;have Il:=avE hs2;clear hn2 hs2
 try clear aG
 try clear aI
 try clear aJ
 try clear aO
 obtain ⟨aG,aI,aJ,aO,-,-,-⟩:=X2.aF
 try clear fO
 try clear fQ
 try clear gK
 try clear xU
 try clear II
 try clear IJ
 try clear IK
 obtain ⟨fO,fQ,gK,xU,II,IJ,IK,-,-,-,-,-,-⟩:=X6.gX;obtain ⟨y9,zf,AO,Zu,-,-,-⟩:=X8.aF;go_upto_region 4 with fail;obtain ⟨W4,UR⟩:∃ W4:World,W4=w3.alloc (.cells #[.int .i64 n2.id,.int .i64 n2.pt.x,.int .i64 n2.pt.y] 45):=⟨_,rfl⟩;have gZ:ah W4 w3.heap.size 45 #[.int .i64 n2.id,.int .i64 n2.pt.x,.int .i64 n2.pt.y]:=by rw [UR];exact ah.made rfl _ _
 have hb4:Below w3.heap.size w3 W4:=by rw [UR];exact bA (bR w3) _
 rw [<- UR];clear UR;replace X2:=X2.keep hb4;replace X6:=X6.keep hb4;replace X8:=X8.keep hb4;have tu:=avE (wB.out.mono hb4);replace Bw:=bT Bw hb4;clear hb4
 try clear aG
 try clear aI
 try clear aJ
 try clear aO
 obtain ⟨aG,aI,aJ,aO,-,-,-⟩:=X2.aF
 try clear fO
 try clear fQ
 try clear gK
 try clear xU
 try clear II
 try clear IJ
 try clear IK
 obtain ⟨fO,fQ,gK,xU,II,IJ,IK,-,-,-,-,-,-⟩:=X6.gX
 try clear y9
 try clear zf
 try clear AO
 try clear Zu
 obtain ⟨y9,zf,AO,Zu,-,-,-⟩:=X8.aF;obtain ⟨nD,nG,nH,IE,-,-,-⟩:=gZ.aF;go_cut [41] (fun u wx=>u=.bool (!(s && (s1 && s2)))/\wx=W4)
 case first =>
  cases s<;>cases s1<;>cases s2
  all_goals
   go_wp2;go_meet
   case rel => exact ⟨rfl,rfl⟩
 case rest =>
  obtain ⟨rfl,rfl⟩:=hcut
  cases hsb:(s && (s1 && s2))
  case false =>
   have hf:=avE (show q=none by
    rw [<- Hq.out,pathOf,Hr.out]
    cases r with
    | none=>rfl
    | some a0 =>
     have h1:=Hs.out;have h2:=Ha.out;simp only [Option.isSome_some,avU] at h1 h2;subst h1 h2;simp only [jD,Ik.out,Il.out];simpa using hsb)
   clear hsb;go_wp2_with fail;go_ret2;exact ⟨none,0,by rw [hf.out];rfl,Bw,by rw [hf.out];exact Own.nil _ _ _ _ _⟩
  case true =>
   have UU:s=true/\s1=true/\s2=true:=by simpa using hsb
   have hf:=avE (show q=some (n1.pt::(a.via++[n2.pt]))/\a.via.length<=1048576 by
    rw [<- Hq.out,pathOf,Hr.out]
    cases r with
    | none=>have h1:=Hs.out;rw [UU.1] at h1;cases h1
    | some a0 =>
     have h2:=Ha.out;simp only [avU] at h2;subst h2;refine ⟨?_,iL.out _ (CW Hr.out)⟩;simp only [jD,Ik.out,Il.out,UU.2.1,UU.2.2,Bool.and_self,if_true,au,nodeAt,Nq.out,Nr.out])
   clear hsb UU;go_wp2_with fail;have hlen:=avE hf.out.2;have hBa:Below w.heap.size w (((wc.alloc (.cells #[.int .i64 n1.pt.x,.int .i64 n1.pt.y] 39)).alloc (.cells #[.int .i64 n2.pt.x,.int .i64 n2.pt.y] 39)).alloc (.cells #[.slice (some ⟨wc.heap.size,0,none⟩) 1 1,.slice A1 a.via.length c1,.slice (some ⟨wc.heap.size+1,0,none⟩) 1 1] 46)):=bA (bA (bA Bw _) _) _;refine (akE _ [⟨[n1.pt],some ⟨wc.heap.size,0,none⟩,1⟩,⟨a.via,A1,c1⟩,⟨[n2.pt],some ⟨wc.heap.size+1,0,none⟩,1⟩] _ (Sl.lit (n:=3) (ah.made ars _ _) rfl (dP Pe)) ?_ ars ars ?_).mono ?_
   ·intro k hk;have hk:k<3:=hk;rcases k with _ | _ | _ | k
    · exact dM.one (((ah.made rfl _ _).alloc _).alloc _)
    · exact tu.out.mono (bA (bA (bA (bR wc) _) _) _)
    · exact dM.one ((ah.made ars _ _).alloc _)
    · omega
   ·have:=hlen.out
    simp only [av5,List.flatMap_nil,avL,avO,avN];omega
   rintro e w5 ⟨v5,rfl,hb5,hown⟩;have Bz:=hBa.size;have ho:=hown.fG (b':=w.heap.size) Bz;have B5:=bT hBa hb5;simp only [av5,List.flatMap_nil,List.append_nil,List.cons_append,List.nil_append] at ho;have hf1:=hf.out.1;generalize n1.pt::(a.via++[n2.pt])=PL at ho hf1;have Hf1:=avE hf1;obtain ⟨A5,c5,rfl,-⟩:=Own.sl ho;have Ho:=avE ho;have bC:=avE B5;clear hown ho B5 Bz hb5 hBa hf1;go_wp2_with fail;go_ret2;exact ⟨A5,c5,by rw [Hf1.out];rfl,bC.out,by rw [Hf1.out];exact Ho.out⟩
end Go.Proofs.YtialfdomhoojiaaGreat
