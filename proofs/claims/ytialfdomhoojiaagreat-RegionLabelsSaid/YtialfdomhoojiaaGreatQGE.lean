import Derived.Test.YtialfdomhoojiaaGreatQGD
set_option linter.unusedSimpArgs false
set_option linter.unusedVariables false
set_option maxRecDepth 100000
set_option maxHeartbeats 2000000
namespace Go.Proofs.YtialfdomhoojiaaGreat
open Go.RowKit
def nodeAt (p:Pl) (id:Int):Pt:=((J3 p.nodes id).getD nd0).pt
def AV (p:Pl) (a:Ar):List Pt:=nodeAt p a.fr::(a.via++[nodeAt p a.dst])
def JY (p:Pl) (a:Ar):Bool:=(J3 p.nodes a.fr).isSome && (J3 p.nodes a.dst).isSome
def ac9 (w:World) (l:List Pt) (b:Bool) (e:Ending) (w':World):Prop :=
 ∃ v,e=.returned (.tuple #[v,.bool b])/\AU w w'/\Own w' w.heap.size 39 2 Ee v l
theorem acA (v va:Value) (p:Pl) (a:Ar) (w:World) (h:Ci w v p) (ha:Dv w va a.via) (hs:a.via.length<=1048576) :
  Calls Tryz.prog 128 #[v,UQ a va] w (ac9 w (AV p a) (JY p a)):=by
 have HP:=AA h;have HA:=AA ha;obtain ⟨vn,vr,vf,al,rfl,-⟩:=h;obtain ⟨A,c,rfl,-⟩:=ha;have TN:∀ id W,AU w W->Calls Tryz.prog 187 #[.agg #[vn,vr,vf],.int .i64 id] W _:=fun id W hW=>ag6 _ p id W (HP.out.mono hW);simp only [iP,uM] at TN;have HN:=AA TN;clear TN;unfold UQ;go_enter Tryz.func128,Tryz.ntmps128;go_wp2_with fail;refine (HN.out a.fr _ (bA (bA (bR w) _) _)).mono ?_;rintro e w1 ⟨rfl,hb1⟩;have Bw:AU w w1:=by
  exact EC
 have X2:AO _ (w.heap.size) 26 #[vn,vr,vf]:=AO.keep (by repeat (first | exact AO.made Ak _ _ | refine AO.alloc ?_ _)) hb1;have X3:AO _ (w.heap.size+1) 50 #[.int .i64 a.id,.int .i64 a.fr,.int .i64 a.dst,.slice A a.via.length c,.int .i64 a.left,.int .i64 a.right]:=AO.keep (by repeat (first | exact AO.made Ak _ _ | refine AO.alloc ?_ _)) hb1;clear hb1;generalize hn1:(J3 p.nodes a.fr).getD nd0=n1 at *;generalize hs1:(J3 p.nodes a.fr).isSome=s1 at *;have nD:=AA hn1;have bW:=AA hs1;clear hn1 hs1;obtain ⟨BU,BX,Bg,CB,-,-,-⟩:=X2.Az;obtain ⟨Dk,EJ,ET,I9,KZ,PV,PW,-,-,-,-,-,-⟩:=X3.IW;go_wp2_with fail;refine (HN.out a.dst _ (bA Bw _)).mono ?_;rintro e w2 ⟨rfl,hb2⟩;have X6:AO w2 w1.heap.size 45 #[.int .i64 n1.id,.int .i64 n1.pt.x,.int .i64 n1.pt.y]:=(AO.made rfl _ _).keep hb2;replace X3:=(X3.alloc _).keep hb2;replace Bw:AU w w2:=bT (bA Bw _) hb2;clear hb2 X2 BU BX Bg CB;generalize hn2:(J3 p.nodes a.dst).getD nd0=n2 at *;generalize hs2:(J3 p.nodes a.dst).isSome=s2 at *;have nG:=AA hn2;have bY:=AA hs2;clear hn2 hs2
 try clear Dk EJ ET I9 KZ PV PW
 obtain ⟨Dk,EJ,ET,I9,KZ,PV,PW,-,-,-,-,-,-⟩:=X3.IW;obtain ⟨EK,EL,EM,ML,-,-,-⟩:=X6.Az;go_upto_region 3 with fail;obtain ⟨W3,hW3⟩:=BR (w2.alloc (.cells #[.int .i64 n2.id,.int .i64 n2.pt.x,.int .i64 n2.pt.y] 45));have X8:AO W3 w2.heap.size 45 #[.int .i64 n2.id,.int .i64 n2.pt.x,.int .i64 n2.pt.y]:=by rw [hW3];exact AO.made rfl _ _
 have hb3:AU w2 W3:=by rw [hW3];exact bA (bR w2) _
 rw [<- hW3];clear hW3;replace X3:=X3.keep hb3;replace X6:=X6.keep hb3;replace Bw:AU w W3:=bT Bw hb3;clear hb3
 try clear Dk EJ ET I9 KZ PV PW
 obtain ⟨Dk,EJ,ET,I9,KZ,PV,PW,-,-,-,-,-,-⟩:=X3.IW
 try clear EK EL EM ML
 obtain ⟨EK,EL,EM,ML,-,-,-⟩:=X6.Az;obtain ⟨OI,OY,OZ,aAr,-,-,-⟩:=X8.Az;go_cut [4,5] (fun s t wx=>Own wx w.heap.size 39 2 Ee s (n1.pt::(a.via++[n2.pt]))/\t=.bool (s1 && s2)/\AU w wx)
 case first =>
  cases s1
  ·refine DJ (W3) (.take 0 1 (.take 1 3 (.take 3 11 (.take 4 27 (.take 6 91 (.take 7 219 (.take 10 1243 (.two 2 1247 (.two 5 1279 (.call 8 1535 (.call 9 2047 (.run 5 11 2047 (.done)))) 8 1503 (.call 5 1535 (.call 9 2047 (.run 5 11 2047 (.done))))) 8 1499 (.call 2 1503 (.call 5 1535 (.call 9 2047 (.run 5 11 2047 (.done))))))))))))) fun CU QR Ae Ah hS=>?_
   iterate 7 refine Aj ?_
   refine PD (i:=2) (j:=8) (Ew Ae rfl) (Ew Ae rfl) (fun K hK=>?_) (fun K hK=>?_)
   ·have AQ:=AA hS;clear hS;refine FY (FV rfl) ?_;go_simp;refine hK.out _ _ (bA AQ.out _) (fun hS=>?_);clear hK K AQ
    try simp only [pu]
    refine PD (i:=5) (j:=8) (Ew Ae rfl) (Ew Ae rfl) (fun K hK=>?_) (fun K hK=>?_)
    ·have AQ:=AA hS;clear hS;refine FY (FV rfl) ?_;refine JV (.tmp 26) (.tmp 28) _ rfl (base:=W3.heap.size) (l:=[n1.pt]) L6 KJ L8 rfl ?_ rfl (HA.out.mono (bT Bw AQ.out)) DZ DZ (Below.size AQ.out) ?_
     · first | exact Own.lit _ _ _ _ Ee [n1.pt] _ 1 _ Ak rfl Ak (DN AB) rfl rfl | exact (Own.lit _ _ _ _ Ee [n1.pt] _ 1 _ Ak rfl Ak (DN AB) rfl rfl).alloc _
     intro v5 Vm Di hg5 Gi;have hS:Since W3 Vm:=bG (w:=W3) AQ.out hg5 (fun g hk=>by have:=Dq hk;simp at this;omega);clear AQ;refine hK.out _ _ hS (fun _=>?_);clear hK K
     try simp only [pu]
     refine Bj ?_;clear hS;intro K hK AQ;go_simp;refine hK.out _ _ (bA AQ.out _) (fun hS=>?_);clear hK K AQ
     try simp only [pu]
     refine Bj ?_;clear hS;intro K hK AQ;refine JV (.tmp 29) (.tmp 32) _ rfl (base:=W3.heap.size) (l2:=[n2.pt]) L6 KJ L8 rfl sW rfl ?_ VR VR (Below.size AQ.out) ?_
     · first | exact Dv.one (AO.made Ak _ _) | exact Dv.one ((AO.made Ak _ _).drew.grown hg5 (fun e=>by have:=Dq e;simp at this)) | exact Dv.one (((AO.made Ak _ _).alloc _).drew.grown hg5 (fun e=>by have:=Dq e;simp at this))
     intro v9 Vo Jt Je Vp;have hS:Since W3 Vo:=bG (w:=W3) AQ.out Je (fun g hk=>(Di.lt g hk).1);clear AQ;refine hK.out _ _ hS (fun _=>?_);clear hK K
     try simp only [pu]
     refine Aj ?_;refine Jh ?_
     iterate 3 refine Aj ?_
     refine DF ?_;clear hS Ah Ae;intro hB;go_wp2;go_meet
     case rel => exact ⟨Jt.ES Bw.size,rfl,bT Bw hB⟩
    ·have AQ:=AA hS;clear hS;refine FY (FV rfl) ?_;go_simp;refine hK.out _ _ (bA AQ.out _) (fun hS=>?_);clear hK K AQ
     try simp only [pu]
     refine Bj ?_;clear hS;intro K hK AQ;refine JV (.tmp 26) (.tmp 28) _ rfl (base:=W3.heap.size) (l:=[n1.pt]) L6 KJ L8 rfl ?_ rfl (HA.out.mono (bT Bw AQ.out)) DZ DZ (Below.size AQ.out) ?_
     · first | exact Own.lit _ _ _ _ Ee [n1.pt] _ 1 _ Ak rfl Ak (DN AB) rfl rfl | exact (Own.lit _ _ _ _ Ee [n1.pt] _ 1 _ Ak rfl Ak (DN AB) rfl rfl).alloc _
     intro v5 Vm Di hg5 Gi;have hS:Since W3 Vm:=bG (w:=W3) AQ.out hg5 (fun g hk=>by have:=Dq hk;simp at this;omega);clear AQ;refine hK.out _ _ hS (fun _=>?_);clear hK K
     try simp only [pu]
     refine Bj ?_;clear hS;intro K hK AQ;refine JV (.tmp 29) (.tmp 32) _ rfl (base:=W3.heap.size) (l2:=[n2.pt]) L6 KJ L8 rfl sW rfl ?_ VR VR (Below.size AQ.out) ?_
     · first | exact Dv.one (AO.made Ak _ _) | exact Dv.one ((AO.made Ak _ _).drew.grown hg5 (fun e=>by have:=Dq e;simp at this)) | exact Dv.one (((AO.made Ak _ _).alloc _).drew.grown hg5 (fun e=>by have:=Dq e;simp at this))
     intro v9 Vo Jt Je Vp;have hS:Since W3 Vo:=bG (w:=W3) AQ.out Je (fun g hk=>(Di.lt g hk).1);clear AQ;refine hK.out _ _ hS (fun _=>?_);clear hK K
     try simp only [pu]
     refine Aj ?_;refine Jh ?_
     iterate 3 refine Aj ?_
     refine DF ?_;clear hS Ah Ae;intro hB;go_wp2;go_meet
     case rel => exact ⟨Jt.ES Bw.size,rfl,bT Bw hB⟩
   ·have AQ:=AA hS;clear hS;refine FY (FV rfl) ?_;go_simp;refine hK.out _ _ (bA AQ.out _) (fun hS=>?_);clear hK K AQ
    try simp only [pu]
    refine Bj ?_;clear hS;intro K hK AQ;go_simp;refine hK.out _ _ (bA AQ.out _) (fun hS=>?_);clear hK K AQ
    try simp only [pu]
    refine Bj ?_;clear hS;intro K hK AQ;refine JV (.tmp 26) (.tmp 28) _ rfl (base:=W3.heap.size) (l:=[n1.pt]) L6 KJ L8 rfl ?_ rfl (HA.out.mono (bT Bw AQ.out)) DZ DZ (Below.size AQ.out) ?_
    · first | exact Own.lit _ _ _ _ Ee [n1.pt] _ 1 _ Ak rfl Ak (DN AB) rfl rfl | exact (Own.lit _ _ _ _ Ee [n1.pt] _ 1 _ Ak rfl Ak (DN AB) rfl rfl).alloc _
    intro v5 Vm Di hg5 Gi;have hS:Since W3 Vm:=bG (w:=W3) AQ.out hg5 (fun g hk=>by have:=Dq hk;simp at this;omega);clear AQ;refine hK.out _ _ hS (fun _=>?_);clear hK K
    try simp only [pu]
    refine Bj ?_;clear hS;intro K hK AQ;refine JV (.tmp 29) (.tmp 32) _ rfl (base:=W3.heap.size) (l2:=[n2.pt]) L6 KJ L8 rfl sW rfl ?_ VR VR (Below.size AQ.out) ?_
    · first | exact Dv.one (AO.made Ak _ _) | exact Dv.one ((AO.made Ak _ _).drew.grown hg5 (fun e=>by have:=Dq e;simp at this)) | exact Dv.one (((AO.made Ak _ _).alloc _).drew.grown hg5 (fun e=>by have:=Dq e;simp at this))
    intro v9 Vo Jt Je Vp;have hS:Since W3 Vo:=bG (w:=W3) AQ.out Je (fun g hk=>(Di.lt g hk).1);clear AQ;refine hK.out _ _ hS (fun _=>?_);clear hK K
    try simp only [pu]
    refine Aj ?_;refine Jh ?_
    iterate 3 refine Aj ?_
    refine DF ?_;clear hS Ah Ae;intro hB;go_wp2;go_meet
    case rel => exact ⟨Jt.ES Bw.size,rfl,bT Bw hB⟩
  ·refine DJ (W3) (.take 0 1 (.take 1 3 (.take 3 11 (.take 4 27 (.take 6 91 (.take 7 219 (.take 10 1243 (.two 2 1247 (.two 5 1279 (.call 8 1535 (.call 9 2047 (.run 5 11 2047 (.done)))) 8 1503 (.call 5 1535 (.call 9 2047 (.run 5 11 2047 (.done))))) 8 1499 (.call 2 1503 (.call 5 1535 (.call 9 2047 (.run 5 11 2047 (.done))))))))))))) fun CU QR Ae Ah hS=>?_
   iterate 7 refine Aj ?_
   refine PD (i:=2) (j:=8) (Ew Ae rfl) (Ew Ae rfl) (fun K hK=>?_) (fun K hK=>?_)
   ·have AQ:=AA hS;clear hS;refine FY (FV rfl) ?_;go_simp;refine hK.out _ _ (bA AQ.out _) (fun hS=>?_);clear hK K AQ
    try simp only [pu]
    refine PD (i:=5) (j:=8) (Ew Ae rfl) (Ew Ae rfl) (fun K hK=>?_) (fun K hK=>?_)
    ·have AQ:=AA hS;clear hS;refine FY (FV rfl) ?_;refine JV (.tmp 26) (.tmp 28) _ rfl (base:=W3.heap.size) (l:=[n1.pt]) L6 KJ L8 rfl ?_ rfl (HA.out.mono (bT Bw AQ.out)) DZ DZ (Below.size AQ.out) ?_
     · first | exact Own.lit _ _ _ _ Ee [n1.pt] _ 1 _ Ak rfl Ak (DN AB) rfl rfl | exact (Own.lit _ _ _ _ Ee [n1.pt] _ 1 _ Ak rfl Ak (DN AB) rfl rfl).alloc _
     intro v5 Vm Di hg5 Gi;have hS:Since W3 Vm:=bG (w:=W3) AQ.out hg5 (fun g hk=>by have:=Dq hk;simp at this;omega);clear AQ;refine hK.out _ _ hS (fun _=>?_);clear hK K
     try simp only [pu]
     refine Bj ?_;clear hS;intro K hK AQ;go_simp;refine hK.out _ _ (bA AQ.out _) (fun hS=>?_);clear hK K AQ
     try simp only [pu]
     refine Bj ?_;clear hS;intro K hK AQ;refine JV (.tmp 29) (.tmp 32) _ rfl (base:=W3.heap.size) (l2:=[n2.pt]) L6 KJ L8 rfl sW rfl ?_ VR VR (Below.size AQ.out) ?_
     · first | exact Dv.one (AO.made Ak _ _) | exact Dv.one ((AO.made Ak _ _).drew.grown hg5 (fun e=>by have:=Dq e;simp at this)) | exact Dv.one (((AO.made Ak _ _).alloc _).drew.grown hg5 (fun e=>by have:=Dq e;simp at this))
     intro v9 Vo Jt Je Vp;have hS:Since W3 Vo:=bG (w:=W3) AQ.out Je (fun g hk=>(Di.lt g hk).1);clear AQ;refine hK.out _ _ hS (fun _=>?_);clear hK K
     try simp only [pu]
     refine Aj ?_;refine Du ?_
     iterate 3 refine Aj ?_
     refine DF ?_;clear hS Ah Ae;intro hB;go_wp2;go_meet
     case rel => exact ⟨Jt.ES Bw.size,rfl,bT Bw hB⟩
    ·have AQ:=AA hS;clear hS;refine FY (FV rfl) ?_;go_simp;refine hK.out _ _ (bA AQ.out _) (fun hS=>?_);clear hK K AQ
     try simp only [pu]
     refine Bj ?_;clear hS;intro K hK AQ;refine JV (.tmp 26) (.tmp 28) _ rfl (base:=W3.heap.size) (l:=[n1.pt]) L6 KJ L8 rfl ?_ rfl (HA.out.mono (bT Bw AQ.out)) DZ DZ (Below.size AQ.out) ?_
     · first | exact Own.lit _ _ _ _ Ee [n1.pt] _ 1 _ Ak rfl Ak (DN AB) rfl rfl | exact (Own.lit _ _ _ _ Ee [n1.pt] _ 1 _ Ak rfl Ak (DN AB) rfl rfl).alloc _
     intro v5 Vm Di hg5 Gi;have hS:Since W3 Vm:=bG (w:=W3) AQ.out hg5 (fun g hk=>by have:=Dq hk;simp at this;omega);clear AQ;refine hK.out _ _ hS (fun _=>?_);clear hK K
     try simp only [pu]
     refine Bj ?_;clear hS;intro K hK AQ;refine JV (.tmp 29) (.tmp 32) _ rfl (base:=W3.heap.size) (l2:=[n2.pt]) L6 KJ L8 rfl sW rfl ?_ VR VR (Below.size AQ.out) ?_
     · first | exact Dv.one (AO.made Ak _ _) | exact Dv.one ((AO.made Ak _ _).drew.grown hg5 (fun e=>by have:=Dq e;simp at this)) | exact Dv.one (((AO.made Ak _ _).alloc _).drew.grown hg5 (fun e=>by have:=Dq e;simp at this))
     intro v9 Vo Jt Je Vp;have hS:Since W3 Vo:=bG (w:=W3) AQ.out Je (fun g hk=>(Di.lt g hk).1);clear AQ;refine hK.out _ _ hS (fun _=>?_);clear hK K
     try simp only [pu]
     refine Aj ?_;refine Du ?_
     iterate 3 refine Aj ?_
     refine DF ?_;clear hS Ah Ae;intro hB;go_wp2;go_meet
     case rel => exact ⟨Jt.ES Bw.size,rfl,bT Bw hB⟩
   ·have AQ:=AA hS;clear hS;refine FY (FV rfl) ?_;go_simp;refine hK.out _ _ (bA AQ.out _) (fun hS=>?_);clear hK K AQ
    try simp only [pu]
    refine Bj ?_;clear hS;intro K hK AQ;go_simp;refine hK.out _ _ (bA AQ.out _) (fun hS=>?_);clear hK K AQ
    try simp only [pu]
    refine Bj ?_;clear hS;intro K hK AQ;refine JV (.tmp 26) (.tmp 28) _ rfl (base:=W3.heap.size) (l:=[n1.pt]) L6 KJ L8 rfl ?_ rfl (HA.out.mono (bT Bw AQ.out)) DZ DZ (Below.size AQ.out) ?_
    · first | exact Own.lit _ _ _ _ Ee [n1.pt] _ 1 _ Ak rfl Ak (DN AB) rfl rfl | exact (Own.lit _ _ _ _ Ee [n1.pt] _ 1 _ Ak rfl Ak (DN AB) rfl rfl).alloc _
    intro v5 Vm Di hg5 Gi;have hS:Since W3 Vm:=bG (w:=W3) AQ.out hg5 (fun g hk=>by have:=Dq hk;simp at this;omega);clear AQ;refine hK.out _ _ hS (fun _=>?_);clear hK K
    try simp only [pu]
    refine Bj ?_;clear hS;intro K hK AQ;refine JV (.tmp 29) (.tmp 32) _ rfl (base:=W3.heap.size) (l2:=[n2.pt]) L6 KJ L8 rfl sW rfl ?_ VR VR (Below.size AQ.out) ?_
    · first | exact Dv.one (AO.made Ak _ _) | exact Dv.one ((AO.made Ak _ _).drew.grown hg5 (fun e=>by have:=Dq e;simp at this)) | exact Dv.one (((AO.made Ak _ _).alloc _).drew.grown hg5 (fun e=>by have:=Dq e;simp at this))
    intro v9 Vo Jt Je Vp;have hS:Since W3 Vo:=bG (w:=W3) AQ.out Je (fun g hk=>(Di.lt g hk).1);clear AQ;refine hK.out _ _ hS (fun _=>?_);clear hK K
    try simp only [pu]
    refine Aj ?_;refine Du ?_
    iterate 3 refine Aj ?_
    refine DF ?_;clear hS Ah Ae;intro hB;go_wp2;go_meet
    case rel => exact ⟨Jt.ES Bw.size,rfl,bT Bw hB⟩
 case rest =>
  obtain ⟨hown,rfl,nC⟩:=hcut;go_wp2_with fail;go_ret2;refine ⟨_,by rw [JY,bW.out,bY.out];rfl,nC,?_⟩;rw [AV,nodeAt,nodeAt,nD.out,nG.out];exact hown
def pathOf (p:Pl) (id:Int):Option (List Pt) :=
 match findAr p.AP id with
 | some a=>if JY p a then some (AV p a) else none
 | none=>none
def iR (w:World) (r:Option (List Pt)) (e:Ending) (w':World):Prop :=
 ∃ A c,e=.returned (.tuple #[.slice A (r.getD []).length c,.int .i64 (if r.isSome then 0 else 7)])/\AU w w'/\Own w' w.heap.size 39 2 Ee (.slice A (r.getD []).length c) (r.getD [])
theorem aBD {l:List Ar} {id:Int} {a:Ar} (h:findAr l id=some a):a∈l:=VO h
theorem agM (v:Value) (p:Pl) (id:Int) (w:World) (h:Ci w v p) (hsh:Short p) :
  Calls Tryz.prog 141 #[v,.int .i64 id] w (iR w (pathOf p id)):=by
 have HP:=AA h;have DW:=AA hsh;clear hsh;obtain ⟨vn,vr,vf,al,rfl,-⟩:=h;obtain ⟨q,hq⟩:=BN (pathOf p id);rw [hq];have Hq:=AA hq;clear hq;go_enter Tryz.func141,Tryz.ntmps141;go_wp2_with fail;refine (ao9 _ p id _ (HP.out.mono (bA (bR w) _)) DW.out).mono ?_;rintro e w1 ⟨v1,rfl,hb1,hp1⟩;have Bw:AU w w1:=by
  exact EC
 have X2:AO _ (w.heap.size) 26 #[vn,vr,vf]:=AO.keep (by repeat (first | exact AO.made Ak _ _ | refine AO.alloc ?_ _)) hb1;clear hb1;have bZ:=AA hp1;obtain ⟨A1,c1,rfl,-⟩:=hp1;generalize hr:findAr p.AP id=r at *;have Hr:=AA hr;clear hr;obtain ⟨BU,BX,Bg,CB,-,-,-⟩:=X2.Az
 cases r with
 | none =>
  simp only [rV,gX,UQ];have hf:=AA (show q=none by rw [<- Hq.out,pathOf,Hr.out]);go_wp2_with fail;go_ret2;refine ⟨none,0,by rw [hf.out];rfl,?_,by rw [hf.out];exact Own.nil _ _ _ _ _⟩;exact EC
 | some a =>
  simp only [H9,VP,UQ] at bZ ⊢;have hs:=AA (DW.out a (aBD Hr.out));go_wp2_with fail;refine (acA _ _ p a _ (HP.out.mono (bA Bw _)) (bZ.out.mono (bA (bR w1) _)) hs.out).mono ?_;rintro e w2 ⟨v2,rfl,hb2,hown⟩;replace hown:=hown.ES (b':=w.heap.size) (by have:=Bw.size;simp;omega);replace Bw:AU w w2:=bT (bA Bw _) hb2;obtain ⟨A2,c2,rfl,-⟩:=Own.sl hown;have FC:=AA hown;clear hb2 hown X2 BU BX Bg CB
  cases he:JY p a
  ·have hf:=AA (show q=none by rw [<- Hq.out,pathOf,Hr.out];simp [he]);clear he;go_wp2_with fail;go_ret2;exact ⟨none,0,by rw [hf.out];rfl,Bw,by rw [hf.out];exact Own.nil _ _ _ _ _⟩
  ·have hf:=AA (show q=some (AV p a) by rw [<- Hq.out,pathOf,Hr.out];simp [he]);clear he;go_wp2_with fail;go_ret2;exact ⟨A2,c2,by rw [hf.out];rfl,Bw,by rw [hf.out];exact FC.out⟩
