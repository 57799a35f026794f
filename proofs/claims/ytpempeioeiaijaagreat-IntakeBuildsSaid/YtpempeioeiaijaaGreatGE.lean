import Derived.Test.YtpempeioeiaijaaGreatGD
set_option linter.unusedSimpArgs false
set_option linter.unusedVariables false
set_option maxRecDepth 100000
set_option maxHeartbeats 2000000
namespace Go.Proofs.YtpempeioeiaijaaGreat
open Go.RowKit Tryz
def nodeAt (p:Pl) (id:Int):Pt:=((Jm p.nodes id).getD nd0).pt
def AV (p:Pl) (a:Ar):List Pt:=nodeAt p a.fr::(a.via++[nodeAt p a.dst])
def JX (p:Pl) (a:Ar):Bool:=(Jm p.nodes a.fr).isSome && (Jm p.nodes a.dst).isSome
def ads (w:World) (l:List Pt) (b:Bool) (e:Ending) (w':World):Prop :=
 ∃ v,e=.returned (.tuple #[v,.bool b])/\AU w w'/\Own w' w.heap.size 42 2 DK v l
theorem adt (v va:Value) (p:Pl) (a:Ar) (w:World) (h:D6 w v p) (ha:CZ w va a.via) (hs:a.via.length<=1048576) :
  Calls prog 64 #[v,Uj a va] w (ads w (AV p a) (JX p a)):=by
 have HP:=AB h;have HA:=AB ha;obtain ⟨vn,vr,vf,al,rfl,-⟩:=h;obtain ⟨A,c,rfl,-⟩:=ha;have TN:∀ id W,AU w W->Calls prog 116 #[.agg #[vn,vr,vf],.int .i64 id] W _:=fun id W hW=>aht _ p id W (HP.1.mono hW);simp only [l7,sQ] at TN;have HN:=AB TN;clear TN;unfold Uj;go_enter func64,ntmps64;go_wp2_with fail;refine (HN.1 a.fr _ (bA (bA (bR w) _) _)).mono ?_;rintro e w1 ⟨rfl,hb1⟩;have Bw:AU w w1:=by
  exact Dy
 have X2:AO _ (w.heap.size) 34 #[vn,vr,vf]:=AO.keep (by repeat (first | exact AO.made Ah _ _ | refine AO.alloc ?_ _)) hb1;have X3:AO _ (w.heap.size+1) 50 #[.int .i64 a.id,.int .i64 a.fr,.int .i64 a.dst,.slice A a.via.length c,.int .i64 a.left,.int .i64 a.right]:=AO.keep (by repeat (first | exact AO.made Ah _ _ | refine AO.alloc ?_ _)) hb1;clear hb1;generalize hn1:(Jm p.nodes a.fr).getD nd0=n1 at *;generalize hs1:(Jm p.nodes a.fr).isSome=s1 at *;have lC:=AB hn1;have Zn:=AB hs1;clear hn1 hs1;obtain ⟨Bh,Bq,Bv,CS,-⟩:=X2.Az;obtain ⟨Dk,EI,EN,Gv,PG,PI,PK,-⟩:=X3.Iy;go_wp2_with fail;refine (HN.1 a.dst _ (bA Bw _)).mono ?_;rintro e w2 ⟨rfl,hb2⟩;have X6:AO w2 w1.heap.size 47 #[.int .i64 n1.id,.int .i64 n1.pt.x,.int .i64 n1.pt.y]:=(AO.made rfl _ _).keep hb2;replace X3:=(X3.alloc _).keep hb2;replace Bw:AU w w2:=bT (bA Bw _) hb2;clear hb2 X2 Bh Bq Bv CS;generalize hn2:(Jm p.nodes a.dst).getD nd0=n2 at *;generalize hs2:(Jm p.nodes a.dst).isSome=s2 at *;have lD:=AB hn2;have Zo:=AB hs2;clear hn2 hs2
 try clear Dk EI EN Gv PG PI PK
 obtain ⟨Dk,EI,EN,Gv,PG,PI,PK,-⟩:=X3.Iy;obtain ⟨FU,FV,FW,QZ,-⟩:=X6.Az;go_upto_region 3 with fail;obtain ⟨W3,hW3⟩:=BR (w2.alloc (.cells #[.int .i64 n2.id,.int .i64 n2.pt.x,.int .i64 n2.pt.y] 47));have X8:AO W3 w2.heap.size 47 #[.int .i64 n2.id,.int .i64 n2.pt.x,.int .i64 n2.pt.y]:=by rw [hW3];exact AO.made rfl _ _
 have hb3:AU w2 W3:=by rw [hW3];exact bA (bR w2) _
 rw [<- hW3];clear hW3;replace X3:=X3.keep hb3;replace X6:=X6.keep hb3;replace Bw:AU w W3:=bT Bw hb3;clear hb3
 try clear Dk EI EN Gv PG PI PK
 obtain ⟨Dk,EI,EN,Gv,PG,PI,PK,-⟩:=X3.Iy
 try clear FU FV FW QZ
 obtain ⟨FU,FV,FW,QZ,-⟩:=X6.Az;obtain ⟨Rq,Rt,SG,adu,-⟩:=X8.Az;go_cut [4,5] (fun s t wx=>Own wx w.heap.size 42 2 DK s (n1.pt::(a.via++[n2.pt]))/\t=.bool (s1 && s2)/\AU w wx)
 case first =>
  cases s1
  ·refine D9 (W3) (.take 0 1 (.take 1 3 (.take 3 11 (.take 4 27 (.take 6 91 (.take 7 219 (.take 10 1243 (.two 2 1247 (.two 5 1279 (.call 8 1535 (.call 9 2047 (.run 5 11 2047 (.done)))) 8 1503 (.call 5 1535 (.call 9 2047 (.run 5 11 2047 (.done))))) 8 1499 (.call 2 1503 (.call 5 1535 (.call 9 2047 (.run 5 11 2047 (.done))))))))))))) fun CQ QR Ae Aj hS=>?_
   iterate 7 refine Ak ?_
   refine MQ (i:=2) (j:=8) (ET Ae rfl) (ET Ae rfl) (fun K hK=>?_) (fun K hK=>?_)
   ·have AP:=AB hS;clear hS;refine En (Eh rfl) ?_;go_simp;refine hK.out _ _ (bA AP.out _) (fun hS=>?_);clear hK K AP
    try simp only [pu]
    refine MQ (i:=5) (j:=8) (ET Ae rfl) (ET Ae rfl) (fun K hK=>?_) (fun K hK=>?_)
    ·have AP:=AB hS;clear hS;refine En (Eh rfl) ?_;refine GK (.tmp 26) (.tmp 28) _ rfl (base:=W3.heap.size) (l:=[n1.pt]) JI I7 JD rfl ?_ rfl (HA.1.mono (bT Bw AP.out)) Dl Dl (Below.size AP.out) ?_
     · first | exact Own.lit _ _ _ _ DK [n1.pt] _ 1 _ Ah rfl Ah (D7 AA) rfl rfl | exact (Own.lit _ _ _ _ DK [n1.pt] _ 1 _ Ah rfl Ah (D7 AA) rfl rfl).alloc _
     intro v5 VI Dj hg5 G5;have hS:Since W3 VI:=bG (w:=W3) AP.out hg5 (fun g hk=>by have:=DV hk;simp at this;omega);clear AP;refine hK.out _ _ hS (fun _=>?_);clear hK K
     try simp only [pu]
     refine BN ?_;clear hS;intro K hK AP;go_simp;refine hK.out _ _ (bA AP.out _) (fun hS=>?_);clear hK K AP
     try simp only [pu]
     refine BN ?_;clear hS;intro K hK AP;refine GK (.tmp 29) (.tmp 32) _ rfl (base:=W3.heap.size) (l2:=[n2.pt]) JI I7 JD rfl qV rfl ?_ Qz Qz (Below.size AP.out) ?_
     · first | exact CZ.one (AO.made Ah _ _) | exact CZ.one ((AO.made Ah _ _).drew.grown hg5 (fun e=>by have:=DV e;simp at this)) | exact CZ.one (((AO.made Ah _ _).alloc _).drew.grown hg5 (fun e=>by have:=DV e;simp at this))
     intro v9 Uz Gy JK V3;have hS:Since W3 Uz:=bG (w:=W3) AP.out JK (fun g hk=>(Dj.lt g hk).1);clear AP;refine hK.out _ _ hS (fun _=>?_);clear hK K
     try simp only [pu]
     refine Ak ?_;refine JW ?_
     iterate 3 refine Ak ?_
     refine D5 ?_;clear hS Aj Ae;intro hB;go_wp2;go_meet
     case rel => exact ⟨Gy.EM Bw.size,rfl,bT Bw hB⟩
    ·have AP:=AB hS;clear hS;refine En (Eh rfl) ?_;go_simp;refine hK.out _ _ (bA AP.out _) (fun hS=>?_);clear hK K AP
     try simp only [pu]
     refine BN ?_;clear hS;intro K hK AP;refine GK (.tmp 26) (.tmp 28) _ rfl (base:=W3.heap.size) (l:=[n1.pt]) JI I7 JD rfl ?_ rfl (HA.1.mono (bT Bw AP.out)) Dl Dl (Below.size AP.out) ?_
     · first | exact Own.lit _ _ _ _ DK [n1.pt] _ 1 _ Ah rfl Ah (D7 AA) rfl rfl | exact (Own.lit _ _ _ _ DK [n1.pt] _ 1 _ Ah rfl Ah (D7 AA) rfl rfl).alloc _
     intro v5 VI Dj hg5 G5;have hS:Since W3 VI:=bG (w:=W3) AP.out hg5 (fun g hk=>by have:=DV hk;simp at this;omega);clear AP;refine hK.out _ _ hS (fun _=>?_);clear hK K
     try simp only [pu]
     refine BN ?_;clear hS;intro K hK AP;refine GK (.tmp 29) (.tmp 32) _ rfl (base:=W3.heap.size) (l2:=[n2.pt]) JI I7 JD rfl qV rfl ?_ Qz Qz (Below.size AP.out) ?_
     · first | exact CZ.one (AO.made Ah _ _) | exact CZ.one ((AO.made Ah _ _).drew.grown hg5 (fun e=>by have:=DV e;simp at this)) | exact CZ.one (((AO.made Ah _ _).alloc _).drew.grown hg5 (fun e=>by have:=DV e;simp at this))
     intro v9 Uz Gy JK V3;have hS:Since W3 Uz:=bG (w:=W3) AP.out JK (fun g hk=>(Dj.lt g hk).1);clear AP;refine hK.out _ _ hS (fun _=>?_);clear hK K
     try simp only [pu]
     refine Ak ?_;refine JW ?_
     iterate 3 refine Ak ?_
     refine D5 ?_;clear hS Aj Ae;intro hB;go_wp2;go_meet
     case rel => exact ⟨Gy.EM Bw.size,rfl,bT Bw hB⟩
   ·have AP:=AB hS;clear hS;refine En (Eh rfl) ?_;go_simp;refine hK.out _ _ (bA AP.out _) (fun hS=>?_);clear hK K AP
    try simp only [pu]
    refine BN ?_;clear hS;intro K hK AP;go_simp;refine hK.out _ _ (bA AP.out _) (fun hS=>?_);clear hK K AP
    try simp only [pu]
    refine BN ?_;clear hS;intro K hK AP;refine GK (.tmp 26) (.tmp 28) _ rfl (base:=W3.heap.size) (l:=[n1.pt]) JI I7 JD rfl ?_ rfl (HA.1.mono (bT Bw AP.out)) Dl Dl (Below.size AP.out) ?_
    · first | exact Own.lit _ _ _ _ DK [n1.pt] _ 1 _ Ah rfl Ah (D7 AA) rfl rfl | exact (Own.lit _ _ _ _ DK [n1.pt] _ 1 _ Ah rfl Ah (D7 AA) rfl rfl).alloc _
    intro v5 VI Dj hg5 G5;have hS:Since W3 VI:=bG (w:=W3) AP.out hg5 (fun g hk=>by have:=DV hk;simp at this;omega);clear AP;refine hK.out _ _ hS (fun _=>?_);clear hK K
    try simp only [pu]
    refine BN ?_;clear hS;intro K hK AP;refine GK (.tmp 29) (.tmp 32) _ rfl (base:=W3.heap.size) (l2:=[n2.pt]) JI I7 JD rfl qV rfl ?_ Qz Qz (Below.size AP.out) ?_
    · first | exact CZ.one (AO.made Ah _ _) | exact CZ.one ((AO.made Ah _ _).drew.grown hg5 (fun e=>by have:=DV e;simp at this)) | exact CZ.one (((AO.made Ah _ _).alloc _).drew.grown hg5 (fun e=>by have:=DV e;simp at this))
    intro v9 Uz Gy JK V3;have hS:Since W3 Uz:=bG (w:=W3) AP.out JK (fun g hk=>(Dj.lt g hk).1);clear AP;refine hK.out _ _ hS (fun _=>?_);clear hK K
    try simp only [pu]
    refine Ak ?_;refine JW ?_
    iterate 3 refine Ak ?_
    refine D5 ?_;clear hS Aj Ae;intro hB;go_wp2;go_meet
    case rel => exact ⟨Gy.EM Bw.size,rfl,bT Bw hB⟩
  ·refine D9 (W3) (.take 0 1 (.take 1 3 (.take 3 11 (.take 4 27 (.take 6 91 (.take 7 219 (.take 10 1243 (.two 2 1247 (.two 5 1279 (.call 8 1535 (.call 9 2047 (.run 5 11 2047 (.done)))) 8 1503 (.call 5 1535 (.call 9 2047 (.run 5 11 2047 (.done))))) 8 1499 (.call 2 1503 (.call 5 1535 (.call 9 2047 (.run 5 11 2047 (.done))))))))))))) fun CQ QR Ae Aj hS=>?_
   iterate 7 refine Ak ?_
   refine MQ (i:=2) (j:=8) (ET Ae rfl) (ET Ae rfl) (fun K hK=>?_) (fun K hK=>?_)
   ·have AP:=AB hS;clear hS;refine En (Eh rfl) ?_;go_simp;refine hK.out _ _ (bA AP.out _) (fun hS=>?_);clear hK K AP
    try simp only [pu]
    refine MQ (i:=5) (j:=8) (ET Ae rfl) (ET Ae rfl) (fun K hK=>?_) (fun K hK=>?_)
    ·have AP:=AB hS;clear hS;refine En (Eh rfl) ?_;refine GK (.tmp 26) (.tmp 28) _ rfl (base:=W3.heap.size) (l:=[n1.pt]) JI I7 JD rfl ?_ rfl (HA.1.mono (bT Bw AP.out)) Dl Dl (Below.size AP.out) ?_
     · first | exact Own.lit _ _ _ _ DK [n1.pt] _ 1 _ Ah rfl Ah (D7 AA) rfl rfl | exact (Own.lit _ _ _ _ DK [n1.pt] _ 1 _ Ah rfl Ah (D7 AA) rfl rfl).alloc _
     intro v5 VI Dj hg5 G5;have hS:Since W3 VI:=bG (w:=W3) AP.out hg5 (fun g hk=>by have:=DV hk;simp at this;omega);clear AP;refine hK.out _ _ hS (fun _=>?_);clear hK K
     try simp only [pu]
     refine BN ?_;clear hS;intro K hK AP;go_simp;refine hK.out _ _ (bA AP.out _) (fun hS=>?_);clear hK K AP
     try simp only [pu]
     refine BN ?_;clear hS;intro K hK AP;refine GK (.tmp 29) (.tmp 32) _ rfl (base:=W3.heap.size) (l2:=[n2.pt]) JI I7 JD rfl qV rfl ?_ Qz Qz (Below.size AP.out) ?_
     · first | exact CZ.one (AO.made Ah _ _) | exact CZ.one ((AO.made Ah _ _).drew.grown hg5 (fun e=>by have:=DV e;simp at this)) | exact CZ.one (((AO.made Ah _ _).alloc _).drew.grown hg5 (fun e=>by have:=DV e;simp at this))
     intro v9 Uz Gy JK V3;have hS:Since W3 Uz:=bG (w:=W3) AP.out JK (fun g hk=>(Dj.lt g hk).1);clear AP;refine hK.out _ _ hS (fun _=>?_);clear hK K
     try simp only [pu]
     refine Ak ?_;refine E5 ?_
     iterate 3 refine Ak ?_
     refine D5 ?_;clear hS Aj Ae;intro hB;go_wp2;go_meet
     case rel => exact ⟨Gy.EM Bw.size,rfl,bT Bw hB⟩
    ·have AP:=AB hS;clear hS;refine En (Eh rfl) ?_;go_simp;refine hK.out _ _ (bA AP.out _) (fun hS=>?_);clear hK K AP
     try simp only [pu]
     refine BN ?_;clear hS;intro K hK AP;refine GK (.tmp 26) (.tmp 28) _ rfl (base:=W3.heap.size) (l:=[n1.pt]) JI I7 JD rfl ?_ rfl (HA.1.mono (bT Bw AP.out)) Dl Dl (Below.size AP.out) ?_
     · first | exact Own.lit _ _ _ _ DK [n1.pt] _ 1 _ Ah rfl Ah (D7 AA) rfl rfl | exact (Own.lit _ _ _ _ DK [n1.pt] _ 1 _ Ah rfl Ah (D7 AA) rfl rfl).alloc _
     intro v5 VI Dj hg5 G5;have hS:Since W3 VI:=bG (w:=W3) AP.out hg5 (fun g hk=>by have:=DV hk;simp at this;omega);clear AP;refine hK.out _ _ hS (fun _=>?_);clear hK K
     try simp only [pu]
     refine BN ?_;clear hS;intro K hK AP;refine GK (.tmp 29) (.tmp 32) _ rfl (base:=W3.heap.size) (l2:=[n2.pt]) JI I7 JD rfl qV rfl ?_ Qz Qz (Below.size AP.out) ?_
     · first | exact CZ.one (AO.made Ah _ _) | exact CZ.one ((AO.made Ah _ _).drew.grown hg5 (fun e=>by have:=DV e;simp at this)) | exact CZ.one (((AO.made Ah _ _).alloc _).drew.grown hg5 (fun e=>by have:=DV e;simp at this))
     intro v9 Uz Gy JK V3;have hS:Since W3 Uz:=bG (w:=W3) AP.out JK (fun g hk=>(Dj.lt g hk).1);clear AP;refine hK.out _ _ hS (fun _=>?_);clear hK K
     try simp only [pu]
     refine Ak ?_;refine E5 ?_
     iterate 3 refine Ak ?_
     refine D5 ?_;clear hS Aj Ae;intro hB;go_wp2;go_meet
     case rel => exact ⟨Gy.EM Bw.size,rfl,bT Bw hB⟩
   ·have AP:=AB hS;clear hS;refine En (Eh rfl) ?_;go_simp;refine hK.out _ _ (bA AP.out _) (fun hS=>?_);clear hK K AP
    try simp only [pu]
    refine BN ?_;clear hS;intro K hK AP;go_simp;refine hK.out _ _ (bA AP.out _) (fun hS=>?_);clear hK K AP
    try simp only [pu]
    refine BN ?_;clear hS;intro K hK AP;refine GK (.tmp 26) (.tmp 28) _ rfl (base:=W3.heap.size) (l:=[n1.pt]) JI I7 JD rfl ?_ rfl (HA.1.mono (bT Bw AP.out)) Dl Dl (Below.size AP.out) ?_
    · first | exact Own.lit _ _ _ _ DK [n1.pt] _ 1 _ Ah rfl Ah (D7 AA) rfl rfl | exact (Own.lit _ _ _ _ DK [n1.pt] _ 1 _ Ah rfl Ah (D7 AA) rfl rfl).alloc _
    intro v5 VI Dj hg5 G5;have hS:Since W3 VI:=bG (w:=W3) AP.out hg5 (fun g hk=>by have:=DV hk;simp at this;omega);clear AP;refine hK.out _ _ hS (fun _=>?_);clear hK K
    try simp only [pu]
    refine BN ?_;clear hS;intro K hK AP;refine GK (.tmp 29) (.tmp 32) _ rfl (base:=W3.heap.size) (l2:=[n2.pt]) JI I7 JD rfl qV rfl ?_ Qz Qz (Below.size AP.out) ?_
    · first | exact CZ.one (AO.made Ah _ _) | exact CZ.one ((AO.made Ah _ _).drew.grown hg5 (fun e=>by have:=DV e;simp at this)) | exact CZ.one (((AO.made Ah _ _).alloc _).drew.grown hg5 (fun e=>by have:=DV e;simp at this))
    intro v9 Uz Gy JK V3;have hS:Since W3 Uz:=bG (w:=W3) AP.out JK (fun g hk=>(Dj.lt g hk).1);clear AP;refine hK.out _ _ hS (fun _=>?_);clear hK K
    try simp only [pu]
    refine Ak ?_;refine E5 ?_
    iterate 3 refine Ak ?_
    refine D5 ?_;clear hS Aj Ae;intro hB;go_wp2;go_meet
    case rel => exact ⟨Gy.EM Bw.size,rfl,bT Bw hB⟩
 case rest =>
  obtain ⟨hown,rfl,l9⟩:=hcut;go_wp2_with fail;go_ret2;refine ⟨_,by rw [JX,Zn.1,Zo.1];rfl,l9,?_⟩;rw [AV,nodeAt,nodeAt,lC.1,lD.1];exact hown
def pathOf (p:Pl) (id:Int):Option (List Pt) :=
 match findAr p.AQ id with
 | some a=>if JX p a then some (AV p a) else none
 | none=>none
def gX (w:World) (r:Option (List Pt)) (e:Ending) (w':World):Prop :=
 ∃ A c,e=.returned (.tuple #[.slice A (r.getD []).length c,.int .i64 (if r.isSome then 0 else 7)])/\AU w w'/\Own w' w.heap.size 42 2 DK (.slice A (r.getD []).length c) (r.getD [])
theorem aaN {l:List Ar} {id:Int} {a:Ar} (h:findAr l id=some a):a∈l:=XV h
theorem ai5 (v:Value) (p:Pl) (id:Int) (w:World) (h:D6 w v p) (hsh:Short p) :
  Calls prog 34 #[v,.int .i64 id] w (gX w (pathOf p id)):=by
 have HP:=AB h;have ED:=AB hsh;clear hsh;obtain ⟨vn,vr,vf,al,rfl,-⟩:=h;obtain ⟨q,hq⟩:=BI (pathOf p id);rw [hq];have Hq:=AB hq;clear hq;go_enter func34,ntmps34;go_wp2_with fail;refine (ao3 _ p id _ (HP.1.mono (bA (bR w) _)) ED.1).mono ?_;rintro e w1 ⟨v1,rfl,hb1,hp1⟩;have Bw:AU w w1:=by
  exact Dy
 have X2:AO _ (w.heap.size) 34 #[vn,vr,vf]:=AO.keep (by repeat (first | exact AO.made Ah _ _ | refine AO.alloc ?_ _)) hb1;clear hb1;have rP:=AB hp1;obtain ⟨A1,c1,rfl,-⟩:=hp1;generalize hr:findAr p.AQ id=r at *;have Hr:=AB hr;clear hr;obtain ⟨Bh,Bq,Bv,CS,-⟩:=X2.Az
 cases r with
 | none =>
  simp only [qW,kE,Uj];have hf:=AB (show q=none by rw [<- Hq.1,pathOf,Hr.1]);go_wp2_with fail;go_ret2;refine ⟨none,0,by rw [hf.1];rfl,?_,by rw [hf.1];exact Own.nil _ _ _ _ _⟩;exact Dy
 | some a =>
  simp only [Ih,Ud,Uj] at rP ⊢;have hs:=AB (ED.1 a (aaN Hr.1));go_wp2_with fail;refine (adt _ _ p a _ (HP.1.mono (bA Bw _)) (rP.1.mono (bA (bR w1) _)) hs.1).mono ?_;rintro e w2 ⟨v2,rfl,hb2,hown⟩;replace hown:=hown.EM (b':=w.heap.size) (by have:=Bw.size;simp;omega);replace Bw:AU w w2:=bT (bA Bw _) hb2;obtain ⟨A2,c2,rfl,-⟩:=Own.sl hown;have FB:=AB hown;clear hb2 hown X2 Bh Bq Bv CS
  cases he:JX p a
  ·have hf:=AB (show q=none by rw [<- Hq.1,pathOf,Hr.1];simp [he]);clear he;go_wp2_with fail;go_ret2;exact ⟨none,0,by rw [hf.1];rfl,Bw,by rw [hf.1];exact Own.nil _ _ _ _ _⟩
  ·have hf:=AB (show q=some (AV p a) by rw [<- Hq.1,pathOf,Hr.1];simp [he]);clear he;go_wp2_with fail;go_ret2;exact ⟨A2,c2,by rw [hf.1];rfl,Bw,by rw [hf.1];exact FB.1⟩
