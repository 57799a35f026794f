import Derived.Test.YtialfdomhoojiaaGreatGD
set_option linter.unusedSimpArgs false
set_option linter.unusedVariables false
set_option maxRecDepth 100000
set_option maxHeartbeats 2000000
namespace Go.Proofs.YtialfdomhoojiaaGreat
open Go.RowKit
def nodeAt (p:Pl) (id:Int):Pt:=((mP p.nodes id).getD nd0).pt
def au (p:Pl) (a:Ar):List Pt:=nodeAt p a.fr::(a.via++[nodeAt p a.dst])
def jD (p:Pl) (a:Ar):Bool:=(mP p.nodes a.fr).isSome && (mP p.nodes a.dst).isSome
def Zr (w:World) (l:List Pt) (b:Bool) (e:Ending) (w':World):Prop :=
 ∃ v,e=.returned (.tuple #[v,.bool b])/\Below w.heap.size w w'/\Own w' w.heap.size 39 2 dU v l
theorem Zt (v va:Value) (p:Pl) (a:Ar) (w:World) (h:bQ w v p) (ha:dM w va a.via) (hs:a.via.length<=1048576) :
  Calls Tryz.prog 128 #[v,jZ a va] w (Zr w (au p a) (jD p a)):=by
 have HP:=avE h;have HA:=avE ha;obtain ⟨vn,vr,vf,al,rfl,-⟩:=h;obtain ⟨A,c,rfl,-⟩:=ha;have TN:∀ id W,Below w.heap.size w W->Calls Tryz.prog 187 #[.agg #[vn,vr,vf],.int .i64 id] W _:=fun id W hW=>adk _ p id W (HP.out.mono hW);simp only [Nh,Pm] at TN;have HN:=avE TN;clear TN;unfold jZ;go_enter Tryz.func128,Tryz.ntmps128;go_wp2_with fail;refine (HN.out a.fr _ (bA (bA (bR w) _) _)).mono ?_;rintro e w1 ⟨rfl,hb1⟩;have Bw:Below w.heap.size w w1:=by
  exact eF
 have X2:ah _ (w.heap.size) 26 #[vn,vr,vf]:=ah.keep (by repeat (first | exact ah.made ars _ _ | refine ah.alloc ?_ _)) hb1;have X3:ah _ (w.heap.size+1) 50 #[.int .i64 a.id,.int .i64 a.fr,.int .i64 a.dst,.slice A a.via.length c,.int .i64 a.left,.int .i64 a.right]:=ah.keep (by repeat (first | exact ah.made ars _ _ | refine ah.alloc ?_ _)) hb1;clear hb1;generalize hn1:(mP p.nodes a.fr).getD nd0=n1 at *;generalize hs1:(mP p.nodes a.fr).isSome=s1 at *;have Nq:=avE hn1;have Ik:=avE hs1;clear hn1 hs1;obtain ⟨aG,aI,aJ,aO,-,-,-⟩:=X2.aF;obtain ⟨bH,bU,bY,fP,pq,pz,pF,-,-,-,-,-,-⟩:=X3.gX;go_wp2_with fail;refine (HN.out a.dst _ (bA Bw _)).mono ?_;rintro e w2 ⟨rfl,hb2⟩;have X6:ah w2 w1.heap.size 45 #[.int .i64 n1.id,.int .i64 n1.pt.x,.int .i64 n1.pt.y]:=(ah.made rfl _ _).keep hb2;replace X3:=(X3.alloc _).keep hb2;replace Bw:Below w.heap.size w w2:=bT (bA Bw _) hb2;clear hb2 X2 aG aI aJ aO;generalize hn2:(mP p.nodes a.dst).getD nd0=n2 at *;generalize hs2:(mP p.nodes a.dst).isSome=s2 at *;have Nr:=avE hn2;have Il:=avE hs2;clear hn2 hs2
 try clear bH
 try clear bU
 try clear bY
 try clear fP
 try clear pq
 try clear pz
 try clear pF
 obtain ⟨bH,bU,bY,fP,pq,pz,pF,-,-,-,-,-,-⟩:=X3.gX;obtain ⟨fO,fQ,gK,xU,-,-,-⟩:=X6.aF;go_upto_region 3 with fail;obtain ⟨W3,hW3⟩:∃ W3:World,W3=w2.alloc (.cells #[.int .i64 n2.id,.int .i64 n2.pt.x,.int .i64 n2.pt.y] 45):=⟨_,rfl⟩;have X8:ah W3 w2.heap.size 45 #[.int .i64 n2.id,.int .i64 n2.pt.x,.int .i64 n2.pt.y]:=by rw [hW3];exact ah.made rfl _ _
 have hb3:Below w2.heap.size w2 W3:=by rw [hW3];exact bA (bR w2) _
 rw [<- hW3];clear hW3;replace X3:=X3.keep hb3;replace X6:=X6.keep hb3;replace Bw:Below w.heap.size w W3:=bT Bw hb3;clear hb3
 try clear bH
 try clear bU
 try clear bY
 try clear fP
 try clear pq
 try clear pz
 try clear pF
 obtain ⟨bH,bU,bY,fP,pq,pz,pF,-,-,-,-,-,-⟩:=X3.gX
 try clear fO
 try clear fQ
 try clear gK
 try clear xU
 obtain ⟨fO,fQ,gK,xU,-,-,-⟩:=X6.aF;obtain ⟨y9,zf,AO,Zu,-,-,-⟩:=X8.aF;go_cut [4,5] (fun s t wx=>Own wx w.heap.size 39 2 dU s (n1.pt::(a.via++[n2.pt]))/\t=.bool (s1 && s2)/\Below w.heap.size w wx)
 case first =>
  cases s1
  ·refine dH (W3) (.take 0 1 (.take 1 3 (.take 3 11 (.take 4 27 (.take 6 91 (.take 7 219 (.take 10 1243 (.two 2 1247 (.two 5 1279 (.call 8 1535 (.call 9 2047 (.run 5 11 2047 (.done)))) 8 1503 (.call 5 1535 (.call 9 2047 (.run 5 11 2047 (.done))))) 8 1499 (.call 2 1503 (.call 5 1535 (.call 9 2047 (.run 5 11 2047 (.done))))))))))))) fun bZ QR aB aH hS=>?_
   iterate 7 refine aC ?_
   refine yX (i:=2) (j:=8) (eP aB rfl) (eP aB rfl) (fun K hK=>?_) (fun K hK=>?_)
   ·have ak:=avE hS;clear hS;refine fK (fJ rfl) ?_;go_simp;refine hK.out _ _ (bA ak.out _) (fun hS=>?_);clear hK K ak
    try simp only [pu]
    refine yX (i:=5) (j:=8) (eP aB rfl) (eP aB rfl) (fun K hK=>?_) (fun K hK=>?_)
    ·have ak:=avE hS;clear hS;refine fK (fJ rfl) ?_;refine kW (.tmp 26) (.tmp 28) _ rfl (base:=W3.heap.size) (l:=[n1.pt]) ng jS ni rfl ?_ rfl (HA.out.mono (bT Bw ak.out)) afr afr (Below.size ak.out) ?_
     · first | exact Own.lit _ _ _ _ dU [n1.pt] _ 1 _ ars rfl ars (dP Pe) rfl rfl | exact (Own.lit _ _ _ _ dU [n1.pt] _ 1 _ ars rfl ars (dP Pe) rfl rfl).alloc _
     intro v5 CU dG hg5 iG;have hS:Since W3 CU:=bG (w:=W3) ak.out hg5 (fun g hk=>by have:=avP hk;simp at this;omega);clear ak;refine hK.out _ _ hS (fun _=>?_);clear hK K
     try simp only [pu]
     refine bK ?_;clear hS;intro K hK ak;go_simp;refine hK.out _ _ (bA ak.out _) (fun hS=>?_);clear hK K ak
     try simp only [pu]
     refine bK ?_;clear hS;intro K hK ak;refine kW (.tmp 29) (.tmp 32) _ rfl (base:=W3.heap.size) (l2:=[n2.pt]) ng jS ni rfl avj rfl ?_ arX arX (Below.size ak.out) ?_
     · first | exact dM.one (ah.made ars _ _) | exact dM.one ((ah.made ars _ _).drew.grown hg5 (fun e=>by have:=avP e;simp at this)) | exact dM.one (((ah.made ars _ _).alloc _).drew.grown hg5 (fun e=>by have:=avP e;simp at this))
     intro v9 CV mY kH zh;have hS:Since W3 CV:=bG (w:=W3) ak.out kH (fun g hk=>(dG.lt g hk).1);clear ak;refine hK.out _ _ hS (fun _=>?_);clear hK K
     try simp only [pu]
     refine aC ?_;refine jC ?_
     iterate 3 refine aC ?_
     refine dB ?_;clear hS aH aB;intro hB;go_wp2;go_meet
     case rel => exact ⟨mY.fG Bw.size,rfl,bT Bw hB⟩
    ·have ak:=avE hS;clear hS;refine fK (fJ rfl) ?_;go_simp;refine hK.out _ _ (bA ak.out _) (fun hS=>?_);clear hK K ak
     try simp only [pu]
     refine bK ?_;clear hS;intro K hK ak;refine kW (.tmp 26) (.tmp 28) _ rfl (base:=W3.heap.size) (l:=[n1.pt]) ng jS ni rfl ?_ rfl (HA.out.mono (bT Bw ak.out)) afr afr (Below.size ak.out) ?_
     · first | exact Own.lit _ _ _ _ dU [n1.pt] _ 1 _ ars rfl ars (dP Pe) rfl rfl | exact (Own.lit _ _ _ _ dU [n1.pt] _ 1 _ ars rfl ars (dP Pe) rfl rfl).alloc _
     intro v5 CU dG hg5 iG;have hS:Since W3 CU:=bG (w:=W3) ak.out hg5 (fun g hk=>by have:=avP hk;simp at this;omega);clear ak;refine hK.out _ _ hS (fun _=>?_);clear hK K
     try simp only [pu]
     refine bK ?_;clear hS;intro K hK ak;refine kW (.tmp 29) (.tmp 32) _ rfl (base:=W3.heap.size) (l2:=[n2.pt]) ng jS ni rfl avj rfl ?_ arX arX (Below.size ak.out) ?_
     · first | exact dM.one (ah.made ars _ _) | exact dM.one ((ah.made ars _ _).drew.grown hg5 (fun e=>by have:=avP e;simp at this)) | exact dM.one (((ah.made ars _ _).alloc _).drew.grown hg5 (fun e=>by have:=avP e;simp at this))
     intro v9 CV mY kH zh;have hS:Since W3 CV:=bG (w:=W3) ak.out kH (fun g hk=>(dG.lt g hk).1);clear ak;refine hK.out _ _ hS (fun _=>?_);clear hK K
     try simp only [pu]
     refine aC ?_;refine jC ?_
     iterate 3 refine aC ?_
     refine dB ?_;clear hS aH aB;intro hB;go_wp2;go_meet
     case rel => exact ⟨mY.fG Bw.size,rfl,bT Bw hB⟩
   ·have ak:=avE hS;clear hS;refine fK (fJ rfl) ?_;go_simp;refine hK.out _ _ (bA ak.out _) (fun hS=>?_);clear hK K ak
    try simp only [pu]
    refine bK ?_;clear hS;intro K hK ak;go_simp;refine hK.out _ _ (bA ak.out _) (fun hS=>?_);clear hK K ak
    try simp only [pu]
    refine bK ?_;clear hS;intro K hK ak;refine kW (.tmp 26) (.tmp 28) _ rfl (base:=W3.heap.size) (l:=[n1.pt]) ng jS ni rfl ?_ rfl (HA.out.mono (bT Bw ak.out)) afr afr (Below.size ak.out) ?_
    · first | exact Own.lit _ _ _ _ dU [n1.pt] _ 1 _ ars rfl ars (dP Pe) rfl rfl | exact (Own.lit _ _ _ _ dU [n1.pt] _ 1 _ ars rfl ars (dP Pe) rfl rfl).alloc _
    intro v5 CU dG hg5 iG;have hS:Since W3 CU:=bG (w:=W3) ak.out hg5 (fun g hk=>by have:=avP hk;simp at this;omega);clear ak;refine hK.out _ _ hS (fun _=>?_);clear hK K
    try simp only [pu]
    refine bK ?_;clear hS;intro K hK ak;refine kW (.tmp 29) (.tmp 32) _ rfl (base:=W3.heap.size) (l2:=[n2.pt]) ng jS ni rfl avj rfl ?_ arX arX (Below.size ak.out) ?_
    · first | exact dM.one (ah.made ars _ _) | exact dM.one ((ah.made ars _ _).drew.grown hg5 (fun e=>by have:=avP e;simp at this)) | exact dM.one (((ah.made ars _ _).alloc _).drew.grown hg5 (fun e=>by have:=avP e;simp at this))
    intro v9 CV mY kH zh;have hS:Since W3 CV:=bG (w:=W3) ak.out kH (fun g hk=>(dG.lt g hk).1);clear ak;refine hK.out _ _ hS (fun _=>?_);clear hK K
    try simp only [pu]
    refine aC ?_;refine jC ?_
    iterate 3 refine aC ?_
    refine dB ?_;clear hS aH aB;intro hB;go_wp2;go_meet
    case rel => exact ⟨mY.fG Bw.size,rfl,bT Bw hB⟩
  ·refine dH (W3) (.take 0 1 (.take 1 3 (.take 3 11 (.take 4 27 (.take 6 91 (.take 7 219 (.take 10 1243 (.two 2 1247 (.two 5 1279 (.call 8 1535 (.call 9 2047 (.run 5 11 2047 (.done)))) 8 1503 (.call 5 1535 (.call 9 2047 (.run 5 11 2047 (.done))))) 8 1499 (.call 2 1503 (.call 5 1535 (.call 9 2047 (.run 5 11 2047 (.done))))))))))))) fun bZ QR aB aH hS=>?_
   iterate 7 refine aC ?_
   refine yX (i:=2) (j:=8) (eP aB rfl) (eP aB rfl) (fun K hK=>?_) (fun K hK=>?_)
   ·have ak:=avE hS;clear hS;refine fK (fJ rfl) ?_;go_simp;refine hK.out _ _ (bA ak.out _) (fun hS=>?_);clear hK K ak
    try simp only [pu]
    refine yX (i:=5) (j:=8) (eP aB rfl) (eP aB rfl) (fun K hK=>?_) (fun K hK=>?_)
    ·have ak:=avE hS;clear hS;refine fK (fJ rfl) ?_;refine kW (.tmp 26) (.tmp 28) _ rfl (base:=W3.heap.size) (l:=[n1.pt]) ng jS ni rfl ?_ rfl (HA.out.mono (bT Bw ak.out)) afr afr (Below.size ak.out) ?_
     · first | exact Own.lit _ _ _ _ dU [n1.pt] _ 1 _ ars rfl ars (dP Pe) rfl rfl | exact (Own.lit _ _ _ _ dU [n1.pt] _ 1 _ ars rfl ars (dP Pe) rfl rfl).alloc _
     intro v5 CU dG hg5 iG;have hS:Since W3 CU:=bG (w:=W3) ak.out hg5 (fun g hk=>by have:=avP hk;simp at this;omega);clear ak;refine hK.out _ _ hS (fun _=>?_);clear hK K
     try simp only [pu]
     refine bK ?_;clear hS;intro K hK ak;go_simp;refine hK.out _ _ (bA ak.out _) (fun hS=>?_);clear hK K ak
     try simp only [pu]
     refine bK ?_;clear hS;intro K hK ak;refine kW (.tmp 29) (.tmp 32) _ rfl (base:=W3.heap.size) (l2:=[n2.pt]) ng jS ni rfl avj rfl ?_ arX arX (Below.size ak.out) ?_
     · first | exact dM.one (ah.made ars _ _) | exact dM.one ((ah.made ars _ _).drew.grown hg5 (fun e=>by have:=avP e;simp at this)) | exact dM.one (((ah.made ars _ _).alloc _).drew.grown hg5 (fun e=>by have:=avP e;simp at this))
     intro v9 CV mY kH zh;have hS:Since W3 CV:=bG (w:=W3) ak.out kH (fun g hk=>(dG.lt g hk).1);clear ak;refine hK.out _ _ hS (fun _=>?_);clear hK K
     try simp only [pu]
     refine aC ?_;refine dN ?_
     iterate 3 refine aC ?_
     refine dB ?_;clear hS aH aB;intro hB;go_wp2;go_meet
     case rel => exact ⟨mY.fG Bw.size,rfl,bT Bw hB⟩
    ·have ak:=avE hS;clear hS;refine fK (fJ rfl) ?_;go_simp;refine hK.out _ _ (bA ak.out _) (fun hS=>?_);clear hK K ak
     try simp only [pu]
     refine bK ?_;clear hS;intro K hK ak;refine kW (.tmp 26) (.tmp 28) _ rfl (base:=W3.heap.size) (l:=[n1.pt]) ng jS ni rfl ?_ rfl (HA.out.mono (bT Bw ak.out)) afr afr (Below.size ak.out) ?_
     · first | exact Own.lit _ _ _ _ dU [n1.pt] _ 1 _ ars rfl ars (dP Pe) rfl rfl | exact (Own.lit _ _ _ _ dU [n1.pt] _ 1 _ ars rfl ars (dP Pe) rfl rfl).alloc _
     intro v5 CU dG hg5 iG;have hS:Since W3 CU:=bG (w:=W3) ak.out hg5 (fun g hk=>by have:=avP hk;simp at this;omega);clear ak;refine hK.out _ _ hS (fun _=>?_);clear hK K
     try simp only [pu]
     refine bK ?_;clear hS;intro K hK ak;refine kW (.tmp 29) (.tmp 32) _ rfl (base:=W3.heap.size) (l2:=[n2.pt]) ng jS ni rfl avj rfl ?_ arX arX (Below.size ak.out) ?_
     · first | exact dM.one (ah.made ars _ _) | exact dM.one ((ah.made ars _ _).drew.grown hg5 (fun e=>by have:=avP e;simp at this)) | exact dM.one (((ah.made ars _ _).alloc _).drew.grown hg5 (fun e=>by have:=avP e;simp at this))
     intro v9 CV mY kH zh;have hS:Since W3 CV:=bG (w:=W3) ak.out kH (fun g hk=>(dG.lt g hk).1);clear ak;refine hK.out _ _ hS (fun _=>?_);clear hK K
     try simp only [pu]
     refine aC ?_;refine dN ?_
     iterate 3 refine aC ?_
     refine dB ?_;clear hS aH aB;intro hB;go_wp2;go_meet
     case rel => exact ⟨mY.fG Bw.size,rfl,bT Bw hB⟩
   ·have ak:=avE hS;clear hS;refine fK (fJ rfl) ?_;go_simp;refine hK.out _ _ (bA ak.out _) (fun hS=>?_);clear hK K ak
    try simp only [pu]
    refine bK ?_;clear hS;intro K hK ak;go_simp;refine hK.out _ _ (bA ak.out _) (fun hS=>?_);clear hK K ak
    try simp only [pu]
    refine bK ?_;clear hS;intro K hK ak;refine kW (.tmp 26) (.tmp 28) _ rfl (base:=W3.heap.size) (l:=[n1.pt]) ng jS ni rfl ?_ rfl (HA.out.mono (bT Bw ak.out)) afr afr (Below.size ak.out) ?_
    · first | exact Own.lit _ _ _ _ dU [n1.pt] _ 1 _ ars rfl ars (dP Pe) rfl rfl | exact (Own.lit _ _ _ _ dU [n1.pt] _ 1 _ ars rfl ars (dP Pe) rfl rfl).alloc _
    intro v5 CU dG hg5 iG;have hS:Since W3 CU:=bG (w:=W3) ak.out hg5 (fun g hk=>by have:=avP hk;simp at this;omega);clear ak;refine hK.out _ _ hS (fun _=>?_);clear hK K
    try simp only [pu]
    refine bK ?_;clear hS;intro K hK ak;refine kW (.tmp 29) (.tmp 32) _ rfl (base:=W3.heap.size) (l2:=[n2.pt]) ng jS ni rfl avj rfl ?_ arX arX (Below.size ak.out) ?_
    · first | exact dM.one (ah.made ars _ _) | exact dM.one ((ah.made ars _ _).drew.grown hg5 (fun e=>by have:=avP e;simp at this)) | exact dM.one (((ah.made ars _ _).alloc _).drew.grown hg5 (fun e=>by have:=avP e;simp at this))
    intro v9 CV mY kH zh;have hS:Since W3 CV:=bG (w:=W3) ak.out kH (fun g hk=>(dG.lt g hk).1);clear ak;refine hK.out _ _ hS (fun _=>?_);clear hK K
    try simp only [pu]
    refine aC ?_;refine dN ?_
    iterate 3 refine aC ?_
    refine dB ?_;clear hS aH aB;intro hB;go_wp2;go_meet
    case rel => exact ⟨mY.fG Bw.size,rfl,bT Bw hB⟩
 case rest =>
  obtain ⟨hown,rfl,Np⟩:=hcut;go_wp2_with fail;go_ret2;refine ⟨_,by rw [jD,Ik.out,Il.out];rfl,Np,?_⟩;rw [au,nodeAt,nodeAt,Nq.out,Nr.out];exact hown
def pathOf (p:Pl) (id:Int):Option (List Pt) :=
 match findAr p.aj id with
 | some a=>if jD p a then some (au p a) else none
 | none=>none
def Kq (w:World) (r:Option (List Pt)) (e:Ending) (w':World):Prop :=
 ∃ A c,e=.returned (.tuple #[.slice A (r.getD []).length c,.int .i64 (if r.isSome then 0 else 7)])/\Below w.heap.size w w'/\Own w' w.heap.size 39 2 dU (.slice A (r.getD []).length c) (r.getD [])
theorem CW {l:List Ar} {id:Int} {a:Ar} (h:findAr l id=some a):a∈l:=List.mem_of_find?_eq_some h
theorem akc {l:List Ar} {id:Int} {a:Ar} (h:findAr l id=some a):a.id=id:=by
 have:=List.find?_some h
 simpa using this
theorem Zv (v:Value) (p:Pl) (id:Int) (w:World) (h:bQ w v p) (hsh:Short p) :
  Calls Tryz.prog 141 #[v,.int .i64 id] w (Kq w (pathOf p id)):=by
 have HP:=avE h;have iL:=avE hsh;clear hsh;obtain ⟨vn,vr,vf,al,rfl,-⟩:=h;obtain ⟨q,hq⟩:∃ q,pathOf p id=q:=⟨_,rfl⟩;rw [hq];have Hq:=avE hq;clear hq;go_enter Tryz.func141,Tryz.ntmps141;go_wp2_with fail;refine (UA _ p id _ (HP.out.mono (bA (bR w) _)) iL.out).mono ?_;rintro e w1 ⟨v1,rfl,hb1,hp1⟩;have Bw:Below w.heap.size w w1:=by
  exact eF
 have X2:ah _ (w.heap.size) 26 #[vn,vr,vf]:=ah.keep (by repeat (first | exact ah.made ars _ _ | refine ah.alloc ?_ _)) hb1;clear hb1;have Io:=avE hp1;obtain ⟨A1,c1,rfl,-⟩:=hp1;generalize hr:findAr p.aj id=r at *;have Hr:=avE hr;clear hr;obtain ⟨aG,aI,aJ,aO,-,-,-⟩:=X2.aF
 cases r with
 | none =>
  simp only [Option.getD_none,Option.isSome_none,jZ];have hf:=avE (show q=none by rw [<- Hq.out,pathOf,Hr.out]);go_wp2_with fail;go_ret2;refine ⟨none,0,by rw [hf.out];rfl,?_,by rw [hf.out];exact Own.nil _ _ _ _ _⟩;exact eF
 | some a =>
  simp only [avU,Option.isSome_some,jZ] at Io ⊢;have hs:=avE (iL.out a (CW Hr.out));go_wp2_with fail;refine (Zt _ _ p a _ (HP.out.mono (bA Bw _)) (Io.out.mono (bA (bR w1) _)) hs.out).mono ?_;rintro e w2 ⟨v2,rfl,hb2,hown⟩;replace hown:=hown.fG (b':=w.heap.size) (by have:=Bw.size;simp;omega);replace Bw:Below w.heap.size w w2:=bT (bA Bw _) hb2;obtain ⟨A2,c2,rfl,-⟩:=Own.sl hown;have gU:=avE hown;clear hb2 hown X2 aG aI aJ aO
  cases he:jD p a
  ·have hf:=avE (show q=none by rw [<- Hq.out,pathOf,Hr.out];simp [he]);clear he;go_wp2_with fail;go_ret2;exact ⟨none,0,by rw [hf.out];rfl,Bw,by rw [hf.out];exact Own.nil _ _ _ _ _⟩
  ·have hf:=avE (show q=some (au p a) by rw [<- Hq.out,pathOf,Hr.out];simp [he]);clear he;go_wp2_with fail;go_ret2;exact ⟨A2,c2,by rw [hf.out];rfl,Bw,by rw [hf.out];exact gU.out⟩
end Go.Proofs.YtialfdomhoojiaaGreat
