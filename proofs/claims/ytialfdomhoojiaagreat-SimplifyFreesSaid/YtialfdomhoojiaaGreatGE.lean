import Derived.Test.YtialfdomhoojiaaGreatGD
set_option linter.unusedSimpArgs false
set_option linter.unusedVariables false
namespace Go.Proofs.YtialfdomhoojiaaGreat
open Go.RowKit
def nodeAt (p:Pl) (id:Int):Pt:=((jh p.nodes id).getD nd0).pt
def aK (p:Pl) (a:Ar):List Pt:=nodeAt p a.fr::(a.via++[nodeAt p a.dst])
def jk (p:Pl) (a:Ar):Bool:=(jh p.nodes a.fr).isSome && (jh p.nodes a.dst).isSome
def ab8 (w:World) (l:List Pt) (b:Bool) (e:Ending) (w':World):Prop :=
 ∃ v,e=.returned (.tuple #[v,.bool b])/\Below w.heap.size w w'/\Own w' w.heap.size 39 2 dG v l
set_option maxRecDepth 100000 in
set_option maxHeartbeats 2000000 in
theorem ab9 (v va:Value) (p:Pl) (a:Ar) (w:World) (h:dh w v p) (ha:bU w va a.via) (hs:a.via.length<=1048576) :
  Calls Tryz.prog 128 #[v,gZ a va] w (ab8 w (aK p a) (jk p a)):=by
 have HP:=Lib.hid h;have HA:=Lib.hid ha;obtain ⟨vn,vr,vf,al,rfl,-⟩:=h;obtain ⟨A,c,rfl,-⟩:=ha;have TN:∀ id W,Below w.heap.size w W->Calls Tryz.prog 187 #[.agg #[vn,vr,vf],.int .i64 id] W _:=fun id W hW=>abH _ p id W (HP.out.mono hW);simp only [FB,Ja] at TN;have HN:=Lib.hid TN;clear TN;unfold gZ;go_enter Tryz.func128,Tryz.ntmps128;go_wp2_with fail;refine (HN.out a.fr _ (bA (bA (bR w) _) _)).mono ?_;rintro e w1 ⟨rfl,hb1⟩;have Bw:Below w.heap.size w w1:=by
  repeat (first | with_reducible exact bR _ | with_reducible assumption | with_reducible refine bA ?_ _ | with_reducible refine bD ?_ | with_reducible refine bN ?_ _ | ((with_reducible refine bS ?_ ?_ _);rotate_left;(simp;try omega)) | ((with_reducible refine bT ?_ ?_);rotate_left;with_reducible assumption) | with_reducible refine bT ?_ (by assumption))
 have X2:ah _ (w.heap.size) 26 #[vn,vr,vf]:=ah.keep (by repeat (first | exact ah.made (by simp) _ _ | refine ah.alloc ?_ _)) hb1;have X3:ah _ (w.heap.size+1) 50 #[.int .i64 a.id,.int .i64 a.fr,.int .i64 a.dst,.slice A a.via.length c,.int .i64 a.left,.int .i64 a.right]:=ah.keep (by repeat (first | exact ah.made (by simp) _ _ | refine ah.alloc ?_ _)) hb1;clear hb1;generalize hn1:(jh p.nodes a.fr).getD nd0=n1 at *;generalize hs1:(jh p.nodes a.fr).isSome=s1 at *;have N8:=Lib.hid hn1;have DC:=Lib.hid hs1;clear hn1 hs1;obtain ⟨bF,bH,bI,bM,-,-,-⟩:=X2.aJ;obtain ⟨aW,aX,aY,dK,yj,yt,yu,-,-,-,-,-,-⟩:=X3.eY;go_wp2_with fail;refine (HN.out a.dst _ (bA Bw _)).mono ?_;rintro e w2 ⟨rfl,hb2⟩;have X6:ah w2 w1.heap.size 45 #[.int .i64 n1.id,.int .i64 n1.pt.x,.int .i64 n1.pt.y]:=(ah.made rfl _ _).keep hb2;replace X3:=(X3.alloc _).keep hb2;replace Bw:Below w.heap.size w w2:=bT (bA Bw _) hb2;clear hb2 X2 bF bH bI bM;generalize hn2:(jh p.nodes a.dst).getD nd0=n2 at *;generalize hs2:(jh p.nodes a.dst).isSome=s2 at *;have N9:=Lib.hid hn2;have DF:=Lib.hid hs2;clear hn2 hs2
 try clear aW
 try clear aX
 try clear aY
 try clear dK
 try clear yj
 try clear yt
 try clear yu
 obtain ⟨aW,aX,aY,dK,yj,yt,yu,-,-,-,-,-,-⟩:=X3.eY;obtain ⟨gu,gI,iP,rU,-,-,-⟩:=X6.aJ;go_upto_region 3 with fail;obtain ⟨W3,hW3⟩:∃ W3:World,W3=w2.alloc (.cells #[.int .i64 n2.id,.int .i64 n2.pt.x,.int .i64 n2.pt.y] 45):=⟨_,rfl⟩;have X8:ah W3 w2.heap.size 45 #[.int .i64 n2.id,.int .i64 n2.pt.x,.int .i64 n2.pt.y]:=by rw [hW3];exact ah.made rfl _ _
 have hb3:Below w2.heap.size w2 W3:=by rw [hW3];exact bA (bR w2) _
 rw [<- hW3];clear hW3;replace X3:=X3.keep hb3;replace X6:=X6.keep hb3;replace Bw:Below w.heap.size w W3:=bT Bw hb3;clear hb3
 try clear aW
 try clear aX
 try clear aY
 try clear dK
 try clear yj
 try clear yt
 try clear yu
 obtain ⟨aW,aX,aY,dK,yj,yt,yu,-,-,-,-,-,-⟩:=X3.eY
 try clear gu
 try clear gI
 try clear iP
 try clear rU
 obtain ⟨gu,gI,iP,rU,-,-,-⟩:=X6.aJ;obtain ⟨qB,qC,rV,Oa,-,-,-⟩:=X8.aJ;go_cut [4,5] (fun s t wx=>Own wx w.heap.size 39 2 dG s (n1.pt::(a.via++[n2.pt]))/\t=.bool (s1 && s2)/\Below w.heap.size w wx)
 case first =>
  cases s1
  ·refine dN (Since W3) (.take 0 1 (.take 1 3 (.take 3 11 (.take 4 27 (.take 6 91 (.take 7 219 (.take 10 1243 (.two 2 1247 (.two 5 1279 (.call 8 1535 (.call 9 2047 (.run 5 11 2047 (.done)))) 8 1503 (.call 5 1535 (.call 9 2047 (.run 5 11 2047 (.done))))) 8 1499 (.call 2 1503 (.call 5 1535 (.call 9 2047 (.run 5 11 2047 (.done))))))))))))) (by kernel_rfl) (bD (bR _)) (by kernel_rfl) (by kernel_rfl) (Nat.le_of_ble_eq_true (by kernel_rfl)) ?_;intro dO QR aj aA hS
   iterate 7
    apply aH;exact aj;exact rfl;exact hS;exact rfl
    · intro _ hqc;go_simp;try rfl
    try simp only [pu]
   refine wB (i:=2) (j:=8) (aB aj rfl) (aB aj rfl) (fun K hK=>?_) (fun K hK=>?_)
   ·have ak:=Lib.hid hS;clear hS;refine aG (aN rfl) ?_;go_simp;refine hK.out _ _ (bA ak.out _) (fun hS=>?_);clear hK K ak
    try simp only [pu]
    refine wB (i:=5) (j:=8) (aB aj rfl) (aB aj rfl) (fun K hK=>?_) (fun K hK=>?_)
    ·have ak:=Lib.hid hS;clear hS;refine aG (aN rfl) ?_;refine nK (.tmp 26) (.tmp 28) _ rfl (base:=W3.heap.size) (l:=[n1.pt]) kP iU kQ rfl ?_ rfl (HA.out.mono (bT Bw ak.out)) (by simp only [List.length_cons,List.length_nil];omega) (by simp only [List.length_cons,List.length_nil];omega) (Below.size ak.out) ?_
     · first | exact Own.lit _ _ _ _ dG [n1.pt] _ 1 _ (by simp) rfl (by simp) (eG (by omega)) rfl rfl | exact (Own.lit _ _ _ _ dG [n1.pt] _ 1 _ (by simp) rfl (by simp) (eG (by omega)) rfl rfl).alloc _
     intro v5 tZ eX hg5 jP;have hS:Since W3 tZ:=bG (w:=W3) ak.out hg5 (fun g hk=>by have:=Option.some.inj hk;simp at this;omega);clear ak;refine hK.out _ _ hS (fun _=>?_);clear hK K
     try simp only [pu]
     refine aS (i:=8) (aB aj rfl) (fun K hK=>?_);have ak:=Lib.hid hS;clear hS;refine aG (aN rfl) ?_;go_simp;refine hK.out _ _ (bA ak.out _) (fun hS=>?_);clear hK K ak
     try simp only [pu]
     refine aS (i:=9) (aB aj rfl) (fun K hK=>?_);have ak:=Lib.hid hS;clear hS;refine aG (aN rfl) ?_;refine nK (.tmp 29) (.tmp 32) _ rfl (base:=W3.heap.size) (l2:=[n2.pt]) kP iU kQ rfl (by first | exact eX | exact eX.alloc _) rfl ?_ (by simp only [List.length_append,List.length_cons,List.length_nil];omega) (by simp only [List.length_append,List.length_cons,List.length_nil];omega) (Below.size ak.out) ?_
     · first | exact bU.one (ah.made (by simp) _ _) | exact bU.one ((ah.made (by simp) _ _).drew.grown hg5 (fun e=>by have:=Option.some.inj e;simp at this)) | exact bU.one (((ah.made (by simp) _ _).alloc _).drew.grown hg5 (fun e=>by have:=Option.some.inj e;simp at this))
     intro v9 uf nV lG Ak;have hS:Since W3 uf:=bG (w:=W3) ak.out lG (fun g hk=>(eX.lt g hk).1);clear ak;refine hK.out _ _ hS (fun _=>?_);clear hK K
     try simp only [pu]
     apply aH;exact aj;exact rfl;exact hS;exact rfl
     · intro _ hqc;go_simp;try rfl
     try simp only [pu]
     refine iH aj rfl hS rfl rfl rfl rfl rfl ?_
     try simp only [pu]
     iterate 3
      apply aH;exact aj;exact rfl;exact hS;exact rfl
      · intro _ hqc;go_simp;try rfl
      try simp only [pu]
     refine dF ?_;refine aA.down _ _ ?_;have hB:Below W3.heap.size W3 _:=hS;clear hS aA aj;go_wp2_with fail;go_meet
     case rel => exact ⟨nV.fM Bw.size,rfl,bT Bw hB⟩
    ·have ak:=Lib.hid hS;clear hS;refine aG (aN rfl) ?_;go_simp;refine hK.out _ _ (bA ak.out _) (fun hS=>?_);clear hK K ak
     try simp only [pu]
     refine aS (i:=5) (aB aj rfl) (fun K hK=>?_);have ak:=Lib.hid hS;clear hS;refine aG (aN rfl) ?_;refine nK (.tmp 26) (.tmp 28) _ rfl (base:=W3.heap.size) (l:=[n1.pt]) kP iU kQ rfl ?_ rfl (HA.out.mono (bT Bw ak.out)) (by simp only [List.length_cons,List.length_nil];omega) (by simp only [List.length_cons,List.length_nil];omega) (Below.size ak.out) ?_
     · first | exact Own.lit _ _ _ _ dG [n1.pt] _ 1 _ (by simp) rfl (by simp) (eG (by omega)) rfl rfl | exact (Own.lit _ _ _ _ dG [n1.pt] _ 1 _ (by simp) rfl (by simp) (eG (by omega)) rfl rfl).alloc _
     intro v5 tZ eX hg5 jP;have hS:Since W3 tZ:=bG (w:=W3) ak.out hg5 (fun g hk=>by have:=Option.some.inj hk;simp at this;omega);clear ak;refine hK.out _ _ hS (fun _=>?_);clear hK K
     try simp only [pu]
     refine aS (i:=9) (aB aj rfl) (fun K hK=>?_);have ak:=Lib.hid hS;clear hS;refine aG (aN rfl) ?_;refine nK (.tmp 29) (.tmp 32) _ rfl (base:=W3.heap.size) (l2:=[n2.pt]) kP iU kQ rfl (by first | exact eX | exact eX.alloc _) rfl ?_ (by simp only [List.length_append,List.length_cons,List.length_nil];omega) (by simp only [List.length_append,List.length_cons,List.length_nil];omega) (Below.size ak.out) ?_
     · first | exact bU.one (ah.made (by simp) _ _) | exact bU.one ((ah.made (by simp) _ _).drew.grown hg5 (fun e=>by have:=Option.some.inj e;simp at this)) | exact bU.one (((ah.made (by simp) _ _).alloc _).drew.grown hg5 (fun e=>by have:=Option.some.inj e;simp at this))
     intro v9 uf nV lG Ak;have hS:Since W3 uf:=bG (w:=W3) ak.out lG (fun g hk=>(eX.lt g hk).1);clear ak;refine hK.out _ _ hS (fun _=>?_);clear hK K
     try simp only [pu]
     apply aH;exact aj;exact rfl;exact hS;exact rfl
     · intro _ hqc;go_simp;try rfl
     try simp only [pu]
     refine iH aj rfl hS rfl rfl rfl rfl rfl ?_
     try simp only [pu]
     iterate 3
      apply aH;exact aj;exact rfl;exact hS;exact rfl
      · intro _ hqc;go_simp;try rfl
      try simp only [pu]
     refine dF ?_;refine aA.down _ _ ?_;have hB:Below W3.heap.size W3 _:=hS;clear hS aA aj;go_wp2_with fail;go_meet
     case rel => exact ⟨nV.fM Bw.size,rfl,bT Bw hB⟩
   ·have ak:=Lib.hid hS;clear hS;refine aG (aN rfl) ?_;go_simp;refine hK.out _ _ (bA ak.out _) (fun hS=>?_);clear hK K ak
    try simp only [pu]
    refine aS (i:=2) (aB aj rfl) (fun K hK=>?_);have ak:=Lib.hid hS;clear hS;refine aG (aN rfl) ?_;go_simp;refine hK.out _ _ (bA ak.out _) (fun hS=>?_);clear hK K ak
    try simp only [pu]
    refine aS (i:=5) (aB aj rfl) (fun K hK=>?_);have ak:=Lib.hid hS;clear hS;refine aG (aN rfl) ?_;refine nK (.tmp 26) (.tmp 28) _ rfl (base:=W3.heap.size) (l:=[n1.pt]) kP iU kQ rfl ?_ rfl (HA.out.mono (bT Bw ak.out)) (by simp only [List.length_cons,List.length_nil];omega) (by simp only [List.length_cons,List.length_nil];omega) (Below.size ak.out) ?_
    · first | exact Own.lit _ _ _ _ dG [n1.pt] _ 1 _ (by simp) rfl (by simp) (eG (by omega)) rfl rfl | exact (Own.lit _ _ _ _ dG [n1.pt] _ 1 _ (by simp) rfl (by simp) (eG (by omega)) rfl rfl).alloc _
    intro v5 tZ eX hg5 jP;have hS:Since W3 tZ:=bG (w:=W3) ak.out hg5 (fun g hk=>by have:=Option.some.inj hk;simp at this;omega);clear ak;refine hK.out _ _ hS (fun _=>?_);clear hK K
    try simp only [pu]
    refine aS (i:=9) (aB aj rfl) (fun K hK=>?_);have ak:=Lib.hid hS;clear hS;refine aG (aN rfl) ?_;refine nK (.tmp 29) (.tmp 32) _ rfl (base:=W3.heap.size) (l2:=[n2.pt]) kP iU kQ rfl (by first | exact eX | exact eX.alloc _) rfl ?_ (by simp only [List.length_append,List.length_cons,List.length_nil];omega) (by simp only [List.length_append,List.length_cons,List.length_nil];omega) (Below.size ak.out) ?_
    · first | exact bU.one (ah.made (by simp) _ _) | exact bU.one ((ah.made (by simp) _ _).drew.grown hg5 (fun e=>by have:=Option.some.inj e;simp at this)) | exact bU.one (((ah.made (by simp) _ _).alloc _).drew.grown hg5 (fun e=>by have:=Option.some.inj e;simp at this))
    intro v9 uf nV lG Ak;have hS:Since W3 uf:=bG (w:=W3) ak.out lG (fun g hk=>(eX.lt g hk).1);clear ak;refine hK.out _ _ hS (fun _=>?_);clear hK K
    try simp only [pu]
    apply aH;exact aj;exact rfl;exact hS;exact rfl
    · intro _ hqc;go_simp;try rfl
    try simp only [pu]
    refine iH aj rfl hS rfl rfl rfl rfl rfl ?_
    try simp only [pu]
    iterate 3
     apply aH;exact aj;exact rfl;exact hS;exact rfl
     · intro _ hqc;go_simp;try rfl
     try simp only [pu]
    refine dF ?_;refine aA.down _ _ ?_;have hB:Below W3.heap.size W3 _:=hS;clear hS aA aj;go_wp2_with fail;go_meet
    case rel => exact ⟨nV.fM Bw.size,rfl,bT Bw hB⟩
  ·refine dN (Since W3) (.take 0 1 (.take 1 3 (.take 3 11 (.take 4 27 (.take 6 91 (.take 7 219 (.take 10 1243 (.two 2 1247 (.two 5 1279 (.call 8 1535 (.call 9 2047 (.run 5 11 2047 (.done)))) 8 1503 (.call 5 1535 (.call 9 2047 (.run 5 11 2047 (.done))))) 8 1499 (.call 2 1503 (.call 5 1535 (.call 9 2047 (.run 5 11 2047 (.done))))))))))))) (by kernel_rfl) (bD (bR _)) (by kernel_rfl) (by kernel_rfl) (Nat.le_of_ble_eq_true (by kernel_rfl)) ?_;intro dO QR aj aA hS
   iterate 7
    apply aH;exact aj;exact rfl;exact hS;exact rfl
    · intro _ hqc;go_simp;try rfl
    try simp only [pu]
   refine wB (i:=2) (j:=8) (aB aj rfl) (aB aj rfl) (fun K hK=>?_) (fun K hK=>?_)
   ·have ak:=Lib.hid hS;clear hS;refine aG (aN rfl) ?_;go_simp;refine hK.out _ _ (bA ak.out _) (fun hS=>?_);clear hK K ak
    try simp only [pu]
    refine wB (i:=5) (j:=8) (aB aj rfl) (aB aj rfl) (fun K hK=>?_) (fun K hK=>?_)
    ·have ak:=Lib.hid hS;clear hS;refine aG (aN rfl) ?_;refine nK (.tmp 26) (.tmp 28) _ rfl (base:=W3.heap.size) (l:=[n1.pt]) kP iU kQ rfl ?_ rfl (HA.out.mono (bT Bw ak.out)) (by simp only [List.length_cons,List.length_nil];omega) (by simp only [List.length_cons,List.length_nil];omega) (Below.size ak.out) ?_
     · first | exact Own.lit _ _ _ _ dG [n1.pt] _ 1 _ (by simp) rfl (by simp) (eG (by omega)) rfl rfl | exact (Own.lit _ _ _ _ dG [n1.pt] _ 1 _ (by simp) rfl (by simp) (eG (by omega)) rfl rfl).alloc _
     intro v5 tZ eX hg5 jP;have hS:Since W3 tZ:=bG (w:=W3) ak.out hg5 (fun g hk=>by have:=Option.some.inj hk;simp at this;omega);clear ak;refine hK.out _ _ hS (fun _=>?_);clear hK K
     try simp only [pu]
     refine aS (i:=8) (aB aj rfl) (fun K hK=>?_);have ak:=Lib.hid hS;clear hS;refine aG (aN rfl) ?_;go_simp;refine hK.out _ _ (bA ak.out _) (fun hS=>?_);clear hK K ak
     try simp only [pu]
     refine aS (i:=9) (aB aj rfl) (fun K hK=>?_);have ak:=Lib.hid hS;clear hS;refine aG (aN rfl) ?_;refine nK (.tmp 29) (.tmp 32) _ rfl (base:=W3.heap.size) (l2:=[n2.pt]) kP iU kQ rfl (by first | exact eX | exact eX.alloc _) rfl ?_ (by simp only [List.length_append,List.length_cons,List.length_nil];omega) (by simp only [List.length_append,List.length_cons,List.length_nil];omega) (Below.size ak.out) ?_
     · first | exact bU.one (ah.made (by simp) _ _) | exact bU.one ((ah.made (by simp) _ _).drew.grown hg5 (fun e=>by have:=Option.some.inj e;simp at this)) | exact bU.one (((ah.made (by simp) _ _).alloc _).drew.grown hg5 (fun e=>by have:=Option.some.inj e;simp at this))
     intro v9 uf nV lG Ak;have hS:Since W3 uf:=bG (w:=W3) ak.out lG (fun g hk=>(eX.lt g hk).1);clear ak;refine hK.out _ _ hS (fun _=>?_);clear hK K
     try simp only [pu]
     apply aH;exact aj;exact rfl;exact hS;exact rfl
     · intro _ hqc;go_simp;try rfl
     try simp only [pu]
     apply dw;exact aj;exact rfl;exact hS;iterate 4 exact rfl
     · intro _ hqc;go_simp;try rfl
     try simp only [pu]
     iterate 3
      apply aH;exact aj;exact rfl;exact hS;exact rfl
      · intro _ hqc;go_simp;try rfl
      try simp only [pu]
     refine dF ?_;refine aA.down _ _ ?_;have hB:Below W3.heap.size W3 _:=hS;clear hS aA aj;go_wp2_with fail;go_meet
     case rel => exact ⟨nV.fM Bw.size,rfl,bT Bw hB⟩
    ·have ak:=Lib.hid hS;clear hS;refine aG (aN rfl) ?_;go_simp;refine hK.out _ _ (bA ak.out _) (fun hS=>?_);clear hK K ak
     try simp only [pu]
     refine aS (i:=5) (aB aj rfl) (fun K hK=>?_);have ak:=Lib.hid hS;clear hS;refine aG (aN rfl) ?_;refine nK (.tmp 26) (.tmp 28) _ rfl (base:=W3.heap.size) (l:=[n1.pt]) kP iU kQ rfl ?_ rfl (HA.out.mono (bT Bw ak.out)) (by simp only [List.length_cons,List.length_nil];omega) (by simp only [List.length_cons,List.length_nil];omega) (Below.size ak.out) ?_
     · first | exact Own.lit _ _ _ _ dG [n1.pt] _ 1 _ (by simp) rfl (by simp) (eG (by omega)) rfl rfl | exact (Own.lit _ _ _ _ dG [n1.pt] _ 1 _ (by simp) rfl (by simp) (eG (by omega)) rfl rfl).alloc _
     intro v5 tZ eX hg5 jP;have hS:Since W3 tZ:=bG (w:=W3) ak.out hg5 (fun g hk=>by have:=Option.some.inj hk;simp at this;omega);clear ak;refine hK.out _ _ hS (fun _=>?_);clear hK K
     try simp only [pu]
     refine aS (i:=9) (aB aj rfl) (fun K hK=>?_);have ak:=Lib.hid hS;clear hS;refine aG (aN rfl) ?_;refine nK (.tmp 29) (.tmp 32) _ rfl (base:=W3.heap.size) (l2:=[n2.pt]) kP iU kQ rfl (by first | exact eX | exact eX.alloc _) rfl ?_ (by simp only [List.length_append,List.length_cons,List.length_nil];omega) (by simp only [List.length_append,List.length_cons,List.length_nil];omega) (Below.size ak.out) ?_
     · first | exact bU.one (ah.made (by simp) _ _) | exact bU.one ((ah.made (by simp) _ _).drew.grown hg5 (fun e=>by have:=Option.some.inj e;simp at this)) | exact bU.one (((ah.made (by simp) _ _).alloc _).drew.grown hg5 (fun e=>by have:=Option.some.inj e;simp at this))
     intro v9 uf nV lG Ak;have hS:Since W3 uf:=bG (w:=W3) ak.out lG (fun g hk=>(eX.lt g hk).1);clear ak;refine hK.out _ _ hS (fun _=>?_);clear hK K
     try simp only [pu]
     apply aH;exact aj;exact rfl;exact hS;exact rfl
     · intro _ hqc;go_simp;try rfl
     try simp only [pu]
     apply dw;exact aj;exact rfl;exact hS;iterate 4 exact rfl
     · intro _ hqc;go_simp;try rfl
     try simp only [pu]
     iterate 3
      apply aH;exact aj;exact rfl;exact hS;exact rfl
      · intro _ hqc;go_simp;try rfl
      try simp only [pu]
     refine dF ?_;refine aA.down _ _ ?_;have hB:Below W3.heap.size W3 _:=hS;clear hS aA aj;go_wp2_with fail;go_meet
     case rel => exact ⟨nV.fM Bw.size,rfl,bT Bw hB⟩
   ·have ak:=Lib.hid hS;clear hS;refine aG (aN rfl) ?_;go_simp;refine hK.out _ _ (bA ak.out _) (fun hS=>?_);clear hK K ak
    try simp only [pu]
    refine aS (i:=2) (aB aj rfl) (fun K hK=>?_);have ak:=Lib.hid hS;clear hS;refine aG (aN rfl) ?_;go_simp;refine hK.out _ _ (bA ak.out _) (fun hS=>?_);clear hK K ak
    try simp only [pu]
    refine aS (i:=5) (aB aj rfl) (fun K hK=>?_);have ak:=Lib.hid hS;clear hS;refine aG (aN rfl) ?_;refine nK (.tmp 26) (.tmp 28) _ rfl (base:=W3.heap.size) (l:=[n1.pt]) kP iU kQ rfl ?_ rfl (HA.out.mono (bT Bw ak.out)) (by simp only [List.length_cons,List.length_nil];omega) (by simp only [List.length_cons,List.length_nil];omega) (Below.size ak.out) ?_
    · first | exact Own.lit _ _ _ _ dG [n1.pt] _ 1 _ (by simp) rfl (by simp) (eG (by omega)) rfl rfl | exact (Own.lit _ _ _ _ dG [n1.pt] _ 1 _ (by simp) rfl (by simp) (eG (by omega)) rfl rfl).alloc _
    intro v5 tZ eX hg5 jP;have hS:Since W3 tZ:=bG (w:=W3) ak.out hg5 (fun g hk=>by have:=Option.some.inj hk;simp at this;omega);clear ak;refine hK.out _ _ hS (fun _=>?_);clear hK K
    try simp only [pu]
    refine aS (i:=9) (aB aj rfl) (fun K hK=>?_);have ak:=Lib.hid hS;clear hS;refine aG (aN rfl) ?_;refine nK (.tmp 29) (.tmp 32) _ rfl (base:=W3.heap.size) (l2:=[n2.pt]) kP iU kQ rfl (by first | exact eX | exact eX.alloc _) rfl ?_ (by simp only [List.length_append,List.length_cons,List.length_nil];omega) (by simp only [List.length_append,List.length_cons,List.length_nil];omega) (Below.size ak.out) ?_
    · first | exact bU.one (ah.made (by simp) _ _) | exact bU.one ((ah.made (by simp) _ _).drew.grown hg5 (fun e=>by have:=Option.some.inj e;simp at this)) | exact bU.one (((ah.made (by simp) _ _).alloc _).drew.grown hg5 (fun e=>by have:=Option.some.inj e;simp at this))
    intro v9 uf nV lG Ak;have hS:Since W3 uf:=bG (w:=W3) ak.out lG (fun g hk=>(eX.lt g hk).1);clear ak;refine hK.out _ _ hS (fun _=>?_);clear hK K
    try simp only [pu]
    apply aH;exact aj;exact rfl;exact hS;exact rfl
    · intro _ hqc;go_simp;try rfl
    try simp only [pu]
    apply dw;exact aj;exact rfl;exact hS;iterate 4 exact rfl
    · intro _ hqc;go_simp;try rfl
    try simp only [pu]
    iterate 3
     apply aH;exact aj;exact rfl;exact hS;exact rfl
     · intro _ hqc;go_simp;try rfl
     try simp only [pu]
    refine dF ?_;refine aA.down _ _ ?_;have hB:Below W3.heap.size W3 _:=hS;clear hS aA aj;go_wp2_with fail;go_meet
    case rel => exact ⟨nV.fM Bw.size,rfl,bT Bw hB⟩
 case rest =>
  obtain ⟨hown,rfl,Bwc⟩:=hcut;go_wp2_with fail;go_ret2;refine ⟨_,by rw [jk,DC.out,DF.out];rfl,Bwc,?_⟩;rw [aK,nodeAt,nodeAt,N8.out,N9.out];exact hown
def pathOf (p:Pl) (id:Int):Option (List Pt) :=
 match findAr p.au id with
 | some a=>if jk p a then some (aK p a) else none
 | none=>none
def Jo (w:World) (r:Option (List Pt)) (e:Ending) (w':World):Prop :=
 ∃ A c,e=.returned (.tuple #[.slice A (r.getD []).length c,.int .i64 (if r.isSome then 0 else 7)])/\Below w.heap.size w w'/\Own w' w.heap.size 39 2 dG (.slice A (r.getD []).length c) (r.getD [])
theorem yw {l:List Ar} {id:Int} {a:Ar} (h:findAr l id=some a):a∈l:=List.mem_of_find?_eq_some h
set_option maxRecDepth 100000 in
set_option maxHeartbeats 1000000 in
theorem acd (v:Value) (p:Pl) (id:Int) (w:World) (h:dh w v p) (hsh:Short p) :
  Calls Tryz.prog 141 #[v,.int .i64 id] w (Jo w (pathOf p id)):=by
 have HP:=Lib.hid h;have ji:=Lib.hid hsh;clear hsh;obtain ⟨vn,vr,vf,al,rfl,-⟩:=h;obtain ⟨q,hq⟩:∃ q,pathOf p id=q:=⟨_,rfl⟩;rw [hq];have Hq:=Lib.hid hq;clear hq;go_enter Tryz.func141,Tryz.ntmps141;go_wp2_with fail;refine (NT _ p id _ (HP.out.mono (bA (bR w) _)) ji.out).mono ?_;rintro e w1 ⟨v1,rfl,hb1,hp1⟩;have Bw:Below w.heap.size w w1:=by
  repeat (first | with_reducible exact bR _ | with_reducible assumption | with_reducible refine bA ?_ _ | with_reducible refine bD ?_ | with_reducible refine bN ?_ _ | ((with_reducible refine bS ?_ ?_ _);rotate_left;(simp;try omega)) | ((with_reducible refine bT ?_ ?_);rotate_left;with_reducible assumption) | with_reducible refine bT ?_ (by assumption))
 have X2:ah _ (w.heap.size) 26 #[vn,vr,vf]:=ah.keep (by repeat (first | exact ah.made (by simp) _ _ | refine ah.alloc ?_ _)) hb1;clear hb1;have yx:=Lib.hid hp1;obtain ⟨A1,c1,rfl,-⟩:=hp1;generalize hr:findAr p.au id=r at *;have Hr:=Lib.hid hr;clear hr;obtain ⟨bF,bH,bI,bM,-,-,-⟩:=X2.aJ
 cases r with
 | none =>
  simp only [Option.getD_none,Option.isSome_none,gZ];have hf:=Lib.hid (show q=none by rw [<- Hq.out,pathOf,Hr.out]);go_wp2_with fail;go_ret2;refine ⟨none,0,by rw [hf.out];rfl,?_,by rw [hf.out];exact Own.nil _ _ _ _ _⟩
  repeat (first | with_reducible exact bR _ | with_reducible assumption | with_reducible refine bA ?_ _ | with_reducible refine bD ?_ | with_reducible refine bN ?_ _ | ((with_reducible refine bS ?_ ?_ _);rotate_left;(simp;try omega)) | ((with_reducible refine bT ?_ ?_);rotate_left;with_reducible assumption) | with_reducible refine bT ?_ (by assumption))
 | some a =>
  simp only [Option.getD_some,Option.isSome_some,gZ] at yx ⊢;have hs:=Lib.hid (ji.out a (yw Hr.out));go_wp2_with fail;refine (ab9 _ _ p a _ (HP.out.mono (bA Bw _)) (yx.out.mono (bA (bR w1) _)) hs.out).mono ?_;rintro e w2 ⟨v2,rfl,hb2,hown⟩;replace hown:=hown.fM (b':=w.heap.size) (by have:=Bw.size;simp;omega);replace Bw:Below w.heap.size w w2:=bT (bA Bw _) hb2;obtain ⟨A2,c2,rfl,-⟩:=Own.sl hown;have fH:=Lib.hid hown;clear hb2 hown X2 bF bH bI bM
  cases he:jk p a
  ·have hf:=Lib.hid (show q=none by rw [<- Hq.out,pathOf,Hr.out];simp [he]);clear he;go_wp2_with fail;go_ret2;exact ⟨none,0,by rw [hf.out];rfl,Bw,by rw [hf.out];exact Own.nil _ _ _ _ _⟩
  ·have hf:=Lib.hid (show q=some (aK p a) by rw [<- Hq.out,pathOf,Hr.out];simp [he]);clear he;go_wp2_with fail;go_ret2;exact ⟨A2,c2,by rw [hf.out];rfl,Bw,by rw [hf.out];exact fH.out⟩
end Go.Proofs.YtialfdomhoojiaaGreat
