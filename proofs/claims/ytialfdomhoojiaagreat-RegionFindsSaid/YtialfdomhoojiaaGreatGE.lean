import Derived.Test.YtialfdomhoojiaaGreatGD
set_option linter.unusedSimpArgs false
set_option linter.unusedVariables false
set_option maxRecDepth 100000
set_option maxHeartbeats 2000000
namespace Go.Proofs.YtialfdomhoojiaaGreat
open Go.RowKit
def nodeAt (p:Pl) (id:Int):Pt:=((JK p.nodes id).getD nd0).pt
def AV (p:Pl) (a:Ar):List Pt:=nodeAt p a.fr::(a.via++[nodeAt p a.dst])
def KY (p:Pl) (a:Ar):Bool:=(JK p.nodes a.fr).isSome && (JK p.nodes a.dst).isSome
def acI (w:World) (l:List Pt) (b:Bool) (e:Ending) (w':World):Prop :=
 ∃ v,e=.returned (.tuple #[v,.bool b])/\AP w w'/\Own w' w.heap.size 39 2 EX v l
theorem acJ (v va:Value) (p:Pl) (a:Ar) (w:World) (h:Cb w v p) (ha:Dq w va a.via) (hs:a.via.length<=1048576) :
  Calls Tryz.prog 128 #[v,YF a va] w (acI w (AV p a) (KY p a)):=by
 have HP:=AA h;have HA:=AA ha;obtain ⟨vn,vr,vf,al,rfl,-⟩:=h;obtain ⟨A,c,rfl,-⟩:=ha;have TN:∀ id W,AP w W->Calls Tryz.prog 187 #[.agg #[vn,vr,vf],.int .i64 id] W _:=fun id W hW=>agJ _ p id W (HP.out.mono hW);simp only [iU,uM] at TN;have HN:=AA TN;clear TN;unfold YF;go_enter Tryz.func128,Tryz.ntmps128;go_wp2_with fail;refine (HN.out a.fr _ (bA (bA (bR w) _) _)).mono ?_;rintro e w1 ⟨rfl,hb1⟩;have Bw:AP w w1:=by
  exact Dk
 have X2:AO _ (w.heap.size) 26 #[vn,vr,vf]:=AO.keep (by repeat (first | exact AO.made Aw _ _ | refine AO.alloc ?_ _)) hb1;have X3:AO _ (w.heap.size+1) 50 #[.int .i64 a.id,.int .i64 a.fr,.int .i64 a.dst,.slice A a.via.length c,.int .i64 a.left,.int .i64 a.right]:=AO.keep (by repeat (first | exact AO.made Aw _ _ | refine AO.alloc ?_ _)) hb1;clear hb1;generalize hn1:(JK p.nodes a.fr).getD nd0=n1 at *;generalize hs1:(JK p.nodes a.fr).isSome=s1 at *;have nS:=AA hn1;have Zx:=AA hs1;clear hn1 hs1;obtain ⟨BQ,BR,BX,CZ,-,-,-⟩:=X2.BF;obtain ⟨E5,Eo,F9,LC,KZ,PK,PN,-,-,-,-,-,-⟩:=X3.IU;go_wp2_with fail;refine (HN.out a.dst _ (bA Bw _)).mono ?_;rintro e w2 ⟨rfl,hb2⟩;have X6:AO w2 w1.heap.size 45 #[.int .i64 n1.id,.int .i64 n1.pt.x,.int .i64 n1.pt.y]:=(AO.made rfl _ _).keep hb2;replace X3:=(X3.alloc _).keep hb2;replace Bw:AP w w2:=bT (bA Bw _) hb2;clear hb2 X2 BQ BR BX CZ;generalize hn2:(JK p.nodes a.dst).getD nd0=n2 at *;generalize hs2:(JK p.nodes a.dst).isSome=s2 at *;have nT:=AA hn2;have Zy:=AA hs2;clear hn2 hs2
 try clear E5 Eo F9 LC KZ PK PN
 obtain ⟨E5,Eo,F9,LC,KZ,PK,PN,-,-,-,-,-,-⟩:=X3.IU;obtain ⟨EF,EG,EH,Nb,-,-,-⟩:=X6.BF;go_upto_region 3 with fail;obtain ⟨W3,hW3⟩:=BO (w2.alloc (.cells #[.int .i64 n2.id,.int .i64 n2.pt.x,.int .i64 n2.pt.y] 45));have X8:AO W3 w2.heap.size 45 #[.int .i64 n2.id,.int .i64 n2.pt.x,.int .i64 n2.pt.y]:=by rw [hW3];exact AO.made rfl _ _
 have hb3:AP w2 W3:=by rw [hW3];exact bA (bR w2) _
 rw [<- hW3];clear hW3;replace X3:=X3.keep hb3;replace X6:=X6.keep hb3;replace Bw:AP w W3:=bT Bw hb3;clear hb3
 try clear E5 Eo F9 LC KZ PK PN
 obtain ⟨E5,Eo,F9,LC,KZ,PK,PN,-,-,-,-,-,-⟩:=X3.IU
 try clear EF EG EH Nb
 obtain ⟨EF,EG,EH,Nb,-,-,-⟩:=X6.BF;obtain ⟨Nc,Nh,O1,uD,-,-,-⟩:=X8.BF;go_cut [4,5] (fun s t wx=>Own wx w.heap.size 39 2 EX s (n1.pt::(a.via++[n2.pt]))/\t=.bool (s1 && s2)/\AP w wx)
 case first =>
  cases s1
  ·refine Cj (W3) (.take 0 1 (.take 1 3 (.take 3 11 (.take 4 27 (.take 6 91 (.take 7 219 (.take 10 1243 (.two 2 1247 (.two 5 1279 (.call 8 1535 (.call 9 2047 (.run 5 11 2047 (.done)))) 8 1503 (.call 5 1535 (.call 9 2047 (.run 5 11 2047 (.done))))) 8 1499 (.call 2 1503 (.call 5 1535 (.call 9 2047 (.run 5 11 2047 (.done))))))))))))) fun Bv QR Ae Ah hS=>?_
   iterate 7 refine Aj ?_
   refine Oc (i:=2) (j:=8) (Ej Ae rfl) (Ej Ae rfl) (fun K hK=>?_) (fun K hK=>?_)
   ·have AQ:=AA hS;clear hS;refine FQ (FM rfl) ?_;go_simp;refine hK.out _ _ (bA AQ.out _) (fun hS=>?_);clear hK K AQ
    try simp only [pu]
    refine Oc (i:=5) (j:=8) (Ej Ae rfl) (Ej Ae rfl) (fun K hK=>?_) (fun K hK=>?_)
    ·have AQ:=AA hS;clear hS;refine FQ (FM rfl) ?_;refine IZ (.tmp 26) (.tmp 28) _ rfl (base:=W3.heap.size) (l:=[n1.pt]) KR Jv KT rfl ?_ rfl (HA.out.mono (bT Bw AQ.out)) DR DR (Below.size AQ.out) ?_
     · first | exact Own.lit _ _ _ _ EX [n1.pt] _ 1 _ Aw rfl Aw (D6 AB) rfl rfl | exact (Own.lit _ _ _ _ EX [n1.pt] _ 1 _ Aw rfl Aw (D6 AB) rfl rfl).alloc _
     intro v5 VY DY hg5 Gf;have hS:Since W3 VY:=bG (w:=W3) AQ.out hg5 (fun g hk=>by have:=Dc hk;simp at this;omega);clear AQ;refine hK.out _ _ hS (fun _=>?_);clear hK K
     try simp only [pu]
     refine BP ?_;clear hS;intro K hK AQ;go_simp;refine hK.out _ _ (bA AQ.out _) (fun hS=>?_);clear hK K AQ
     try simp only [pu]
     refine BP ?_;clear hS;intro K hK AQ;refine IZ (.tmp 29) (.tmp 32) _ rfl (base:=W3.heap.size) (l2:=[n2.pt]) KR Jv KT rfl sU rfl ?_ VK VK (Below.size AQ.out) ?_
     · first | exact Dq.one (AO.made Aw _ _) | exact Dq.one ((AO.made Aw _ _).drew.grown hg5 (fun e=>by have:=Dc e;simp at this)) | exact Dq.one (((AO.made Aw _ _).alloc _).drew.grown hg5 (fun e=>by have:=Dc e;simp at this))
     intro v9 VZ Jo KX Vd;have hS:Since W3 VZ:=bG (w:=W3) AQ.out KX (fun g hk=>(DY.lt g hk).1);clear AQ;refine hK.out _ _ hS (fun _=>?_);clear hK K
     try simp only [pu]
     refine Aj ?_;refine JU ?_
     iterate 3 refine Aj ?_
     refine Ce ?_;clear hS Ah Ae;intro hB;go_wp2;go_meet
     case rel => exact ⟨Jo.Du Bw.size,rfl,bT Bw hB⟩
    ·have AQ:=AA hS;clear hS;refine FQ (FM rfl) ?_;go_simp;refine hK.out _ _ (bA AQ.out _) (fun hS=>?_);clear hK K AQ
     try simp only [pu]
     refine BP ?_;clear hS;intro K hK AQ;refine IZ (.tmp 26) (.tmp 28) _ rfl (base:=W3.heap.size) (l:=[n1.pt]) KR Jv KT rfl ?_ rfl (HA.out.mono (bT Bw AQ.out)) DR DR (Below.size AQ.out) ?_
     · first | exact Own.lit _ _ _ _ EX [n1.pt] _ 1 _ Aw rfl Aw (D6 AB) rfl rfl | exact (Own.lit _ _ _ _ EX [n1.pt] _ 1 _ Aw rfl Aw (D6 AB) rfl rfl).alloc _
     intro v5 VY DY hg5 Gf;have hS:Since W3 VY:=bG (w:=W3) AQ.out hg5 (fun g hk=>by have:=Dc hk;simp at this;omega);clear AQ;refine hK.out _ _ hS (fun _=>?_);clear hK K
     try simp only [pu]
     refine BP ?_;clear hS;intro K hK AQ;refine IZ (.tmp 29) (.tmp 32) _ rfl (base:=W3.heap.size) (l2:=[n2.pt]) KR Jv KT rfl sU rfl ?_ VK VK (Below.size AQ.out) ?_
     · first | exact Dq.one (AO.made Aw _ _) | exact Dq.one ((AO.made Aw _ _).drew.grown hg5 (fun e=>by have:=Dc e;simp at this)) | exact Dq.one (((AO.made Aw _ _).alloc _).drew.grown hg5 (fun e=>by have:=Dc e;simp at this))
     intro v9 VZ Jo KX Vd;have hS:Since W3 VZ:=bG (w:=W3) AQ.out KX (fun g hk=>(DY.lt g hk).1);clear AQ;refine hK.out _ _ hS (fun _=>?_);clear hK K
     try simp only [pu]
     refine Aj ?_;refine JU ?_
     iterate 3 refine Aj ?_
     refine Ce ?_;clear hS Ah Ae;intro hB;go_wp2;go_meet
     case rel => exact ⟨Jo.Du Bw.size,rfl,bT Bw hB⟩
   ·have AQ:=AA hS;clear hS;refine FQ (FM rfl) ?_;go_simp;refine hK.out _ _ (bA AQ.out _) (fun hS=>?_);clear hK K AQ
    try simp only [pu]
    refine BP ?_;clear hS;intro K hK AQ;go_simp;refine hK.out _ _ (bA AQ.out _) (fun hS=>?_);clear hK K AQ
    try simp only [pu]
    refine BP ?_;clear hS;intro K hK AQ;refine IZ (.tmp 26) (.tmp 28) _ rfl (base:=W3.heap.size) (l:=[n1.pt]) KR Jv KT rfl ?_ rfl (HA.out.mono (bT Bw AQ.out)) DR DR (Below.size AQ.out) ?_
    · first | exact Own.lit _ _ _ _ EX [n1.pt] _ 1 _ Aw rfl Aw (D6 AB) rfl rfl | exact (Own.lit _ _ _ _ EX [n1.pt] _ 1 _ Aw rfl Aw (D6 AB) rfl rfl).alloc _
    intro v5 VY DY hg5 Gf;have hS:Since W3 VY:=bG (w:=W3) AQ.out hg5 (fun g hk=>by have:=Dc hk;simp at this;omega);clear AQ;refine hK.out _ _ hS (fun _=>?_);clear hK K
    try simp only [pu]
    refine BP ?_;clear hS;intro K hK AQ;refine IZ (.tmp 29) (.tmp 32) _ rfl (base:=W3.heap.size) (l2:=[n2.pt]) KR Jv KT rfl sU rfl ?_ VK VK (Below.size AQ.out) ?_
    · first | exact Dq.one (AO.made Aw _ _) | exact Dq.one ((AO.made Aw _ _).drew.grown hg5 (fun e=>by have:=Dc e;simp at this)) | exact Dq.one (((AO.made Aw _ _).alloc _).drew.grown hg5 (fun e=>by have:=Dc e;simp at this))
    intro v9 VZ Jo KX Vd;have hS:Since W3 VZ:=bG (w:=W3) AQ.out KX (fun g hk=>(DY.lt g hk).1);clear AQ;refine hK.out _ _ hS (fun _=>?_);clear hK K
    try simp only [pu]
    refine Aj ?_;refine JU ?_
    iterate 3 refine Aj ?_
    refine Ce ?_;clear hS Ah Ae;intro hB;go_wp2;go_meet
    case rel => exact ⟨Jo.Du Bw.size,rfl,bT Bw hB⟩
  ·refine Cj (W3) (.take 0 1 (.take 1 3 (.take 3 11 (.take 4 27 (.take 6 91 (.take 7 219 (.take 10 1243 (.two 2 1247 (.two 5 1279 (.call 8 1535 (.call 9 2047 (.run 5 11 2047 (.done)))) 8 1503 (.call 5 1535 (.call 9 2047 (.run 5 11 2047 (.done))))) 8 1499 (.call 2 1503 (.call 5 1535 (.call 9 2047 (.run 5 11 2047 (.done))))))))))))) fun Bv QR Ae Ah hS=>?_
   iterate 7 refine Aj ?_
   refine Oc (i:=2) (j:=8) (Ej Ae rfl) (Ej Ae rfl) (fun K hK=>?_) (fun K hK=>?_)
   ·have AQ:=AA hS;clear hS;refine FQ (FM rfl) ?_;go_simp;refine hK.out _ _ (bA AQ.out _) (fun hS=>?_);clear hK K AQ
    try simp only [pu]
    refine Oc (i:=5) (j:=8) (Ej Ae rfl) (Ej Ae rfl) (fun K hK=>?_) (fun K hK=>?_)
    ·have AQ:=AA hS;clear hS;refine FQ (FM rfl) ?_;refine IZ (.tmp 26) (.tmp 28) _ rfl (base:=W3.heap.size) (l:=[n1.pt]) KR Jv KT rfl ?_ rfl (HA.out.mono (bT Bw AQ.out)) DR DR (Below.size AQ.out) ?_
     · first | exact Own.lit _ _ _ _ EX [n1.pt] _ 1 _ Aw rfl Aw (D6 AB) rfl rfl | exact (Own.lit _ _ _ _ EX [n1.pt] _ 1 _ Aw rfl Aw (D6 AB) rfl rfl).alloc _
     intro v5 VY DY hg5 Gf;have hS:Since W3 VY:=bG (w:=W3) AQ.out hg5 (fun g hk=>by have:=Dc hk;simp at this;omega);clear AQ;refine hK.out _ _ hS (fun _=>?_);clear hK K
     try simp only [pu]
     refine BP ?_;clear hS;intro K hK AQ;go_simp;refine hK.out _ _ (bA AQ.out _) (fun hS=>?_);clear hK K AQ
     try simp only [pu]
     refine BP ?_;clear hS;intro K hK AQ;refine IZ (.tmp 29) (.tmp 32) _ rfl (base:=W3.heap.size) (l2:=[n2.pt]) KR Jv KT rfl sU rfl ?_ VK VK (Below.size AQ.out) ?_
     · first | exact Dq.one (AO.made Aw _ _) | exact Dq.one ((AO.made Aw _ _).drew.grown hg5 (fun e=>by have:=Dc e;simp at this)) | exact Dq.one (((AO.made Aw _ _).alloc _).drew.grown hg5 (fun e=>by have:=Dc e;simp at this))
     intro v9 VZ Jo KX Vd;have hS:Since W3 VZ:=bG (w:=W3) AQ.out KX (fun g hk=>(DY.lt g hk).1);clear AQ;refine hK.out _ _ hS (fun _=>?_);clear hK K
     try simp only [pu]
     refine Aj ?_;refine Dh ?_
     iterate 3 refine Aj ?_
     refine Ce ?_;clear hS Ah Ae;intro hB;go_wp2;go_meet
     case rel => exact ⟨Jo.Du Bw.size,rfl,bT Bw hB⟩
    ·have AQ:=AA hS;clear hS;refine FQ (FM rfl) ?_;go_simp;refine hK.out _ _ (bA AQ.out _) (fun hS=>?_);clear hK K AQ
     try simp only [pu]
     refine BP ?_;clear hS;intro K hK AQ;refine IZ (.tmp 26) (.tmp 28) _ rfl (base:=W3.heap.size) (l:=[n1.pt]) KR Jv KT rfl ?_ rfl (HA.out.mono (bT Bw AQ.out)) DR DR (Below.size AQ.out) ?_
     · first | exact Own.lit _ _ _ _ EX [n1.pt] _ 1 _ Aw rfl Aw (D6 AB) rfl rfl | exact (Own.lit _ _ _ _ EX [n1.pt] _ 1 _ Aw rfl Aw (D6 AB) rfl rfl).alloc _
     intro v5 VY DY hg5 Gf;have hS:Since W3 VY:=bG (w:=W3) AQ.out hg5 (fun g hk=>by have:=Dc hk;simp at this;omega);clear AQ;refine hK.out _ _ hS (fun _=>?_);clear hK K
     try simp only [pu]
     refine BP ?_;clear hS;intro K hK AQ;refine IZ (.tmp 29) (.tmp 32) _ rfl (base:=W3.heap.size) (l2:=[n2.pt]) KR Jv KT rfl sU rfl ?_ VK VK (Below.size AQ.out) ?_
     · first | exact Dq.one (AO.made Aw _ _) | exact Dq.one ((AO.made Aw _ _).drew.grown hg5 (fun e=>by have:=Dc e;simp at this)) | exact Dq.one (((AO.made Aw _ _).alloc _).drew.grown hg5 (fun e=>by have:=Dc e;simp at this))
     intro v9 VZ Jo KX Vd;have hS:Since W3 VZ:=bG (w:=W3) AQ.out KX (fun g hk=>(DY.lt g hk).1);clear AQ;refine hK.out _ _ hS (fun _=>?_);clear hK K
     try simp only [pu]
     refine Aj ?_;refine Dh ?_
     iterate 3 refine Aj ?_
     refine Ce ?_;clear hS Ah Ae;intro hB;go_wp2;go_meet
     case rel => exact ⟨Jo.Du Bw.size,rfl,bT Bw hB⟩
   ·have AQ:=AA hS;clear hS;refine FQ (FM rfl) ?_;go_simp;refine hK.out _ _ (bA AQ.out _) (fun hS=>?_);clear hK K AQ
    try simp only [pu]
    refine BP ?_;clear hS;intro K hK AQ;go_simp;refine hK.out _ _ (bA AQ.out _) (fun hS=>?_);clear hK K AQ
    try simp only [pu]
    refine BP ?_;clear hS;intro K hK AQ;refine IZ (.tmp 26) (.tmp 28) _ rfl (base:=W3.heap.size) (l:=[n1.pt]) KR Jv KT rfl ?_ rfl (HA.out.mono (bT Bw AQ.out)) DR DR (Below.size AQ.out) ?_
    · first | exact Own.lit _ _ _ _ EX [n1.pt] _ 1 _ Aw rfl Aw (D6 AB) rfl rfl | exact (Own.lit _ _ _ _ EX [n1.pt] _ 1 _ Aw rfl Aw (D6 AB) rfl rfl).alloc _
    intro v5 VY DY hg5 Gf;have hS:Since W3 VY:=bG (w:=W3) AQ.out hg5 (fun g hk=>by have:=Dc hk;simp at this;omega);clear AQ;refine hK.out _ _ hS (fun _=>?_);clear hK K
    try simp only [pu]
    refine BP ?_;clear hS;intro K hK AQ;refine IZ (.tmp 29) (.tmp 32) _ rfl (base:=W3.heap.size) (l2:=[n2.pt]) KR Jv KT rfl sU rfl ?_ VK VK (Below.size AQ.out) ?_
    · first | exact Dq.one (AO.made Aw _ _) | exact Dq.one ((AO.made Aw _ _).drew.grown hg5 (fun e=>by have:=Dc e;simp at this)) | exact Dq.one (((AO.made Aw _ _).alloc _).drew.grown hg5 (fun e=>by have:=Dc e;simp at this))
    intro v9 VZ Jo KX Vd;have hS:Since W3 VZ:=bG (w:=W3) AQ.out KX (fun g hk=>(DY.lt g hk).1);clear AQ;refine hK.out _ _ hS (fun _=>?_);clear hK K
    try simp only [pu]
    refine Aj ?_;refine Dh ?_
    iterate 3 refine Aj ?_
    refine Ce ?_;clear hS Ah Ae;intro hB;go_wp2;go_meet
    case rel => exact ⟨Jo.Du Bw.size,rfl,bT Bw hB⟩
 case rest =>
  obtain ⟨hown,rfl,nR⟩:=hcut;go_wp2_with fail;go_ret2;refine ⟨_,by rw [KY,Zx.out,Zy.out];rfl,nR,?_⟩;rw [AV,nodeAt,nodeAt,nS.out,nT.out];exact hown
def pathOf (p:Pl) (id:Int):Option (List Pt) :=
 match findAr p.AU id with
 | some a=>if KY p a then some (AV p a) else none
 | none=>none
def iW (w:World) (r:Option (List Pt)) (e:Ending) (w':World):Prop :=
 ∃ A c,e=.returned (.tuple #[.slice A (r.getD []).length c,.int .i64 (if r.isSome then 0 else 7)])/\AP w w'/\Own w' w.heap.size 39 2 EX (.slice A (r.getD []).length c) (r.getD [])
theorem aAf {l:List Ar} {id:Int} {a:Ar} (h:findAr l id=some a):a∈l:=VG h
theorem agW (v:Value) (p:Pl) (id:Int) (w:World) (h:Cb w v p) (hsh:Short p) :
  Calls Tryz.prog 141 #[v,.int .i64 id] w (iW w (pathOf p id)):=by
 have HP:=AA h;have DL:=AA hsh;clear hsh;obtain ⟨vn,vr,vf,al,rfl,-⟩:=h;obtain ⟨q,hq⟩:=BL (pathOf p id);rw [hq];have Hq:=AA hq;clear hq;go_enter Tryz.func141,Tryz.ntmps141;go_wp2_with fail;refine (aoO _ p id _ (HP.out.mono (bA (bR w) _)) DL.out).mono ?_;rintro e w1 ⟨v1,rfl,hb1,hp1⟩;have Bw:AP w w1:=by
  exact Dk
 have X2:AO _ (w.heap.size) 26 #[vn,vr,vf]:=AO.keep (by repeat (first | exact AO.made Aw _ _ | refine AO.alloc ?_ _)) hb1;clear hb1;have Zz:=AA hp1;obtain ⟨A1,c1,rfl,-⟩:=hp1;generalize hr:findAr p.AU id=r at *;have Hr:=AA hr;clear hr;obtain ⟨BQ,BR,BX,CZ,-,-,-⟩:=X2.BF
 cases r with
 | none =>
  simp only [rV,fK,YF];have hf:=AA (show q=none by rw [<- Hq.out,pathOf,Hr.out]);go_wp2_with fail;go_ret2;refine ⟨none,0,by rw [hf.out];rfl,?_,by rw [hf.out];exact Own.nil _ _ _ _ _⟩;exact Dk
 | some a =>
  simp only [Gp,VH,YF] at Zz ⊢;have hs:=AA (DL.out a (aAf Hr.out));go_wp2_with fail;refine (acJ _ _ p a _ (HP.out.mono (bA Bw _)) (Zz.out.mono (bA (bR w1) _)) hs.out).mono ?_;rintro e w2 ⟨v2,rfl,hb2,hown⟩;replace hown:=hown.Du (b':=w.heap.size) (by have:=Bw.size;simp;omega);replace Bw:AP w w2:=bT (bA Bw _) hb2;obtain ⟨A2,c2,rfl,-⟩:=Own.sl hown;have Ef:=AA hown;clear hb2 hown X2 BQ BR BX CZ
  cases he:KY p a
  ·have hf:=AA (show q=none by rw [<- Hq.out,pathOf,Hr.out];simp [he]);clear he;go_wp2_with fail;go_ret2;exact ⟨none,0,by rw [hf.out];rfl,Bw,by rw [hf.out];exact Own.nil _ _ _ _ _⟩
  ·have hf:=AA (show q=some (AV p a) by rw [<- Hq.out,pathOf,Hr.out];simp [he]);clear he;go_wp2_with fail;go_ret2;exact ⟨A2,c2,by rw [hf.out];rfl,Bw,by rw [hf.out];exact Ef.out⟩
