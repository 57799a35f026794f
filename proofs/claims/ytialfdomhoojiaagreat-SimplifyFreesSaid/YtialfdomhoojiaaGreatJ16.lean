import Derived.Test.YtialfdomhoojiaaGreatJ14
import Derived.Test.YtialfdomhoojiaaGreatJ15
import Derived.Test.YtialfdomhoojiaaGreatJ02
import Derived.Test.YtialfdomhoojiaaGreatGB
import Derived.Test.YtialfdomhoojiaaGreatGE
import Derived.Test.YtialfdomhoojiaaGreatJ04
import Derived.Test.YtialfdomhoojiaaGreatJ01
set_option linter.unusedSimpArgs false
set_option linter.unusedVariables false
namespace Go.Proofs.YtialfdomhoojiaaGreat
open Go.RowKit
set_option maxHeartbeats 400000 in
theorem Qr (q:Pt) (w:World):Calls Tryz.prog 146 #[aF q] w fun e w'=>e=.returned (.bool (fK q))/\Below w.heap.size w w':=by
 have HI:=Lib.hid (fun W=>Zg ⟨-1048576,-1048576,1048576,1048576⟩ q W);have he:=Lib.hid (show inB ⟨-1048576,-1048576,1048576,1048576⟩ q=fK q from by
  unfold inB fK;rw [Bool.eq_iff_iff];simp only [Bool.and_eq_true,decide_eq_true_eq,and_assoc])
 unfold Fh aF at HI;unfold aF;go_enter Tryz.func146,Tryz.ntmps146;go_wp2_with fail;refine (HI.out _).mono ?_;rintro e w1 ⟨rfl,hb1⟩;have HB1:=Lib.hid (bT (bA (bR w) _) hb1);clear hb1;go_wp2_with fail;go_ret;exact ⟨aT he.out,HB1.out⟩
structure EN (W:World) (g7 g8 g3 g4 g5:Nat) (a b c:Pt):Prop where
 bx:ah W g7 73 #[.int .i64 (lU a b c).x0,.int .i64 (lU a b c).y0,.int .i64 (lU a b c).x1,.int .i64 (lU a b c).y1]
 tn:ah W g8 3 #[.int .i64 (bC a b c)]
 pa:ah W g3 39 #[.int .i64 a.x,.int .i64 a.y]
 pb:ah W g4 39 #[.int .i64 b.x,.int .i64 b.y]
 pc:ah W g5 39 #[.int .i64 c.x,.int .i64 c.y]
theorem EN.keep {W W':World} {g7 g8 g3 g4 g5:Nat} {a b c:Pt} (h:EN W g7 g8 g3 g4 g5 a b c) (hb:Below W.heap.size W W'):EN W' g7 g8 g3 g4 g5 a b c :=
 ⟨h.bx.keep hb,h.tn.keep hb,h.pa.keep hb,h.pb.keep hb,h.pc.keep hb⟩
set_option maxRecDepth 100000 in
set_option maxHeartbeats 4000000 in
theorem agb (a b c q:Pt) (g7 g8 g3 g4 g5:Nat) (w:World) (h:EN w g7 g8 g3 g4 g5 a b c) :
  Calls Tryz.prog 211 #[aF q,.pointer (some ⟨g7,0,none⟩),.pointer (some ⟨g8,0,none⟩),.pointer (some ⟨g3,0,none⟩),.pointer (some ⟨g4,0,none⟩),.pointer (some ⟨g5,0,none⟩)] w fun e w'=>e=.returned (.bool (qR a b c q))/\Below w.heap.size w w':=by
 have HI:=Lib.hid (fun W=>Zg (lU a b c) q W);have jI:=Lib.hid (fun W=>zY a b q W);have iT:=Lib.hid (fun W=>zY b c q W);have iC:=Lib.hid (fun W=>zY c a q W);have oJ:=Lib.hid (fun W=>Dt a b q W);have HS2:=Lib.hid (fun W=>Dt b c q W);have uJ:=Lib.hid (fun W=>Dt c a q W);have b0:=yg a b c;have b1:=yg a b q;have b2:=yg b c q;have b3:=yg c a q;have HT:=Lib.hid h;obtain ⟨R,hR⟩:∃ R,qR a b c q=R:=⟨_,rfl⟩;rw [hR];unfold qR at hR;have HT1:=h;obtain ⟨hbx,htn,hpa,hpb,hpc⟩:=HT1;have xq:=Lib.hid hbx;have HTn:=Lib.hid htn;clear h hbx htn hpa hpb hpc;unfold Fh aF at HI;unfold aF at jI iT iC oJ HS2 uJ ⊢;generalize inB (lU a b c) q=z0 at *;generalize dV a b q=o1 at *;generalize dV b c q=o2 at *;generalize dV c a q=o3 at *;generalize bC a b q=s1 at *;generalize bC b c q=s2 at *;generalize bC c a q=s3 at *;have dL:=Lib.hid hR;clear hR;go_enter Tryz.func211,Tryz.ntmps211;go_upto_region 1 with fail;obtain ⟨W1,hW⟩:∃ W:World,W=w.alloc (.cells #[.int .i64 q.x,.int .i64 q.y] 39):=⟨_,rfl⟩;have X6:ah W1 w.heap.size 39 #[.int .i64 q.x,.int .i64 q.y]:=by rw [hW];exact ah.made rfl _ _
 have HB1:=Lib.hid (show Below w.heap.size w W1 by rw [hW];exact bA (bR w) _);rw [<- hW];clear hW;have nZ:=Lib.hid X6;have XB:=xq.out.keep HB1.out;obtain ⟨gu,gI,iP,-,-⟩:=X6.aO;obtain ⟨BR,BU,BX,BZ,Cb,-,-,-,-⟩:=XB.Nv;go_wp2_with fail;refine (HI.out _).mono ?_;rintro e w2 ⟨rfl,hb2⟩;have HB2:=Lib.hid (bT HB1.out hb2);have KL:=Lib.hid (nZ.out.keep hb2);clear hb2 X6 gu gI iP XB BR BU BX BZ Cb nZ HB1
 cases z0
 case false =>
  go_wp2_with fail;go_ret;exact ⟨aT (by rw [<- dL.out];rfl),HB2.out⟩
 have hR:=dL.out;rw [Bool.true_and] at hR;clear dL;have XT:=HTn.out.keep HB2.out;have X3:=HT.out.pa.keep HB2.out;have X4:=HT.out.pb.keep HB2.out;have X5:=HT.out.pc.keep HB2.out;have X6:=KL.out;by_cases ht:bC a b c=0
 ·rw [if_pos ht] at hR;have dL:=Lib.hid hR;rw [ht] at XT;clear hR ht;obtain ⟨aW,aX,aY,-,-⟩:=X3.aO;obtain ⟨aU,aV,bQ,-,-⟩:=X4.aO;obtain ⟨bV,bW,dH,-,-⟩:=X5.aO
  try clear gu
  try clear gI
  try clear iP
  obtain ⟨gu,gI,iP,-,-⟩:=X6.aO;obtain ⟨Qs,Qu,-⟩:=XT.fC;go_wp2_with fail;refine (jI.out _).mono ?_;rintro e w3 ⟨rfl,hb3⟩;have HB3:=Lib.hid (bT HB2.out hb3);have Qv:=KL.out.keep hb3;clear hb3 X3 aW aX aY X4 aU aV bQ X5 bV bW dH X6 gu gI iP XT Qs Qu
  cases o1
  case true =>
   go_wp2_with fail;go_ret;exact ⟨aT (by rw [<- dL.out];rfl),HB3.out⟩
  have X3:=HT.out.pa.keep HB3.out;have X4:=HT.out.pb.keep HB3.out;have X5:=HT.out.pc.keep HB3.out;have agc:=Lib.hid Qv
  try clear aW
  try clear aX
  try clear aY
  obtain ⟨aW,aX,aY,-,-⟩:=X3.aO
  try clear aU
  try clear aV
  try clear bQ
  obtain ⟨aU,aV,bQ,-,-⟩:=X4.aO
  try clear bV
  try clear bW
  try clear dH
  obtain ⟨bV,bW,dH,-,-⟩:=X5.aO
  try clear Zh
  try clear Zi
  try clear Zj
  try clear ajM
  try clear ajN
  obtain ⟨Zh,Zi,Zj,-,-⟩:=Qv.aO;go_wp2_with fail;refine (iT.out _).mono ?_;rintro e w4 ⟨rfl,hb4⟩;have HB4:=Lib.hid (bT HB3.out hb4);have X6:=agc.out.keep hb4;clear hb4 X3 aW aX aY X4 aU aV bQ X5 bV bW dH Qv Zh Zi Zj
  cases o2
  case true =>
   go_wp2_with fail;go_ret;exact ⟨aT (by rw [<- dL.out];rfl),HB4.out⟩
  have X3:=HT.out.pa.keep HB4.out;have X5:=HT.out.pc.keep HB4.out
  try clear aW
  try clear aX
  try clear aY
  obtain ⟨aW,aX,aY,-,-⟩:=X3.aO
  try clear bV
  try clear bW
  try clear dH
  obtain ⟨bV,bW,dH,-,-⟩:=X5.aO
  try clear gu
  try clear gI
  try clear iP
  obtain ⟨gu,gI,iP,-,-⟩:=X6.aO;go_wp2_with fail;refine (iC.out _).mono ?_;rintro e w5 ⟨rfl,hb5⟩;have cO:=Lib.hid (bT HB4.out hb5);clear hb5 X3 aW aX aY X5 bV bW dH X6 gu gI iP;go_wp2_with fail;go_ret;exact ⟨aT (by rw [<- dL.out];simp),cO.out⟩
 ·rw [if_neg ht] at hR;obtain ⟨T,hT⟩:∃ T,bC a b c=T:=⟨_,rfl⟩;rw [hT] at hR ht b0 XT;obtain ⟨P1,hP1⟩:∃ P,T*s1=P:=⟨_,rfl⟩;obtain ⟨P2,hP2⟩:∃ P,T*s2=P:=⟨_,rfl⟩;obtain ⟨P3,hP3⟩:∃ P,T*s3=P:=⟨_,rfl⟩;rw [hP1,hP2,hP3] at hR;have dL:=Lib.hid hR;have KX:T=1\/T=-1:=by omega
  have Zk:IntKind.i64.wrap (T*s1)=P1:=by rw [hP1];exact IntWalk.i64_in _ (by rcases KX with rfl | rfl<;>omega)
  have Zl:IntKind.i64.wrap (T*s2)=P2:=by rw [hP2];exact IntWalk.i64_in _ (by rcases KX with rfl | rfl<;>omega)
  have kw3:IntKind.i64.wrap (T*s3)=P3:=by rw [hP3];exact IntWalk.i64_in _ (by rcases KX with rfl | rfl<;>omega)
  have ht0:(T == 0)=false:=beq_eq_false_iff_ne.2 ht;clear hR hT hP1 hP2 hP3 KX b0 b1 b2 b3
  try clear aW
  try clear aX
  try clear aY
  obtain ⟨aW,aX,aY,-,-⟩:=X3.aO
  try clear aU
  try clear aV
  try clear bQ
  obtain ⟨aU,aV,bQ,-,-⟩:=X4.aO
  try clear bV
  try clear bW
  try clear dH
  obtain ⟨bV,bW,dH,-,-⟩:=X5.aO
  try clear gu
  try clear gI
  try clear iP
  obtain ⟨gu,gI,iP,-,-⟩:=X6.aO
  try clear Qs
  try clear Qu
  obtain ⟨Qs,Qu,-⟩:=XT.fC;go_upto_region 5 with fail;by_cases c1:0<=P1
  case neg =>
   refine dN (Since w2) (.run 4 0 0 (.call 4 31 (.run 21 5 31 (.done)))) (by kernel_rfl) (bD (bR _)) (by kernel_rfl) (by kernel_rfl) (Nat.le_of_ble_eq_true (by kernel_rfl)) ?_;intro dO QR aj aA hS
   iterate 4
    apply aH;exact aj;exact rfl;exact hS;exact rfl
    · intro _ hqc;go_simp;try rfl
    try simp only [pu]
   refine aS (i:=4) (aB aj rfl) (fun K hK=>?_);have ak:=Lib.hid hS;clear hS;refine aG (aN rfl) ?_;go_simp;refine (oJ.out _).mono ?_;rintro e bY ⟨rfl,dB⟩;have hS:Since w2 bY:=bT (w:=w2) ak.out dB;clear ak;refine hK.out _ _ hS (fun _=>?_);clear hK K
   try simp only [pu]
   iterate 3
    apply aH;exact aj;exact rfl;exact hS;exact rfl
    · intro _ hqc;go_simp;try rfl
    try simp only [pu]
   iterate 7
    refine iH aj rfl hS rfl rfl rfl rfl rfl ?_
    try simp only [pu]
   iterate 2
    apply aH;exact aj;exact rfl;exact hS;exact rfl
    · intro _ hqc;go_simp;try rfl
    try simp only [pu]
   iterate 7
    refine iH aj rfl hS rfl rfl rfl rfl rfl ?_
    try simp only [pu]
   iterate 2
    apply aH;exact aj;exact rfl;exact hS;exact rfl
    · intro _ hqc;go_simp;try rfl
    try simp only [pu]
   refine dF ?_;refine aA.down _ _ ?_;have hB:Below w2.heap.size w2 bY:=hS;clear hS aA aj;go_wp2_with fail;go_ret;exact ⟨aT (by rw [<- dL.out];simp [c1]<;>omega),bT HB2.out hB⟩
  by_cases c2:0<=P2
  case neg =>
   refine dN (Since w2) (.run 4 0 0 (.call 4 31 (.run 7 5 31 (.call 12 8191 (.run 13 13 8191 (.done)))))) (by kernel_rfl) (bD (bR _)) (by kernel_rfl) (by kernel_rfl) (Nat.le_of_ble_eq_true (by kernel_rfl)) ?_;intro dO QR aj aA hS
   iterate 4
    apply aH;exact aj;exact rfl;exact hS;exact rfl
    · intro _ hqc;go_simp;try rfl
    try simp only [pu]
   refine aS (i:=4) (aB aj rfl) (fun K hK=>?_);have ak:=Lib.hid hS;clear hS;refine aG (aN rfl) ?_;go_simp;refine (oJ.out _).mono ?_;rintro e bY ⟨rfl,dB⟩;have hS:Since w2 bY:=bT (w:=w2) ak.out dB;clear ak;refine hK.out _ _ hS (fun _=>?_);clear hK K
   try simp only [pu]
   iterate 3
    apply aH;exact aj;exact rfl;exact hS;exact rfl
    · intro _ hqc;go_simp;try rfl
    try simp only [pu]
   iterate 4
    apply dw;exact aj;exact rfl;exact hS;iterate 4 exact rfl
    · intro _ hqc;go_simp;try rfl
    try simp only [pu]
   refine aS (i:=12) (aB aj rfl) (fun K hK=>?_);have ak:=Lib.hid hS;clear hS;refine aG (ig rfl (aB aj rfl) rfl rfl) ?_;go_simp;refine (HS2.out _).mono ?_;rintro e wr2 ⟨rfl,fG⟩;have hS:Since w2 wr2:=bT (w:=w2) ak.out fG;clear ak;refine hK.out _ _ hS (fun _=>?_);clear hK K
   try simp only [pu]
   iterate 2
    apply dw;exact aj;exact rfl;exact hS;iterate 4 exact rfl
    · intro _ hqc;go_simp;try rfl
    try simp only [pu]
   iterate 2
    apply aH;exact aj;exact rfl;exact hS;exact rfl
    · intro _ hqc;go_simp;try rfl
    try simp only [pu]
   iterate 7
    refine iH aj rfl hS rfl rfl rfl rfl rfl ?_
    try simp only [pu]
   iterate 2
    apply aH;exact aj;exact rfl;exact hS;exact rfl
    · intro _ hqc;go_simp;try rfl
    try simp only [pu]
   refine dF ?_;refine aA.down _ _ ?_;have hB:Below w2.heap.size w2 wr2:=hS;clear hS aA aj;go_wp2_with fail;go_ret;exact ⟨aT (by rw [<- dL.out];simp [c1,c2]<;>omega),bT HB2.out hB⟩
  refine dN (Since w2) (.run 4 0 0 (.call 4 31 (.run 7 5 31 (.call 12 8191 (.run 8 13 8191 (.call 21 4194303 (.run 4 22 4194303 (.done)))))))) (by kernel_rfl) (bD (bR _)) (by kernel_rfl) (by kernel_rfl) (Nat.le_of_ble_eq_true (by kernel_rfl)) ?_;intro dO QR aj aA hS
  iterate 4
   apply aH;exact aj;exact rfl;exact hS;exact rfl
   · intro _ hqc;go_simp;try rfl
   try simp only [pu]
  refine aS (i:=4) (aB aj rfl) (fun K hK=>?_);have ak:=Lib.hid hS;clear hS;refine aG (aN rfl) ?_;go_simp;refine (oJ.out _).mono ?_;rintro e bY ⟨rfl,dB⟩;have hS:Since w2 bY:=bT (w:=w2) ak.out dB;clear ak;refine hK.out _ _ hS (fun _=>?_);clear hK K
  try simp only [pu]
  iterate 3
   apply aH;exact aj;exact rfl;exact hS;exact rfl
   · intro _ hqc;go_simp;try rfl
   try simp only [pu]
  iterate 4
   apply dw;exact aj;exact rfl;exact hS;iterate 4 exact rfl
   · intro _ hqc;go_simp;try rfl
   try simp only [pu]
  refine aS (i:=12) (aB aj rfl) (fun K hK=>?_);have ak:=Lib.hid hS;clear hS;refine aG (ig rfl (aB aj rfl) rfl rfl) ?_;go_simp;refine (HS2.out _).mono ?_;rintro e wr2 ⟨rfl,fG⟩;have hS:Since w2 wr2:=bT (w:=w2) ak.out fG;clear ak;refine hK.out _ _ hS (fun _=>?_);clear hK K
  try simp only [pu]
  iterate 2
   apply dw;exact aj;exact rfl;exact hS;iterate 4 exact rfl
   · intro _ hqc;go_simp;try rfl
   try simp only [pu]
  iterate 2
   apply aH;exact aj;exact rfl;exact hS;exact rfl
   · intro _ hqc;go_simp;try rfl
   try simp only [pu]
  iterate 4
   apply dw;exact aj;exact rfl;exact hS;iterate 4 exact rfl
   · intro _ hqc;go_simp;try rfl
   try simp only [pu]
  refine aS (i:=21) (aB aj rfl) (fun K hK=>?_);have ak:=Lib.hid hS;clear hS;refine aG (ig rfl (aB aj rfl) rfl rfl) ?_;go_simp;refine (uJ.out _).mono ?_;rintro e wr3 ⟨rfl,jG⟩;have hS:Since w2 wr3:=bT (w:=w2) ak.out jG;clear ak;refine hK.out _ _ hS (fun _=>?_);clear hK K
  try simp only [pu]
  iterate 2
   apply dw;exact aj;exact rfl;exact hS;iterate 4 exact rfl
   · intro _ hqc;go_simp;try rfl
   try simp only [pu]
  iterate 2
   apply aH;exact aj;exact rfl;exact hS;exact rfl
   · intro _ hqc;go_simp;try rfl
   try simp only [pu]
  refine dF ?_;refine aA.down _ _ ?_;have hB:Below w2.heap.size w2 wr3:=hS;clear hS aA aj;go_wp2_with fail;go_ret;exact ⟨aT (by rw [<- dL.out];simp [c1,c2]<;>omega),bT HB2.out hB⟩
set_option maxRecDepth 100000 in
set_option maxHeartbeats 4000000 in
theorem agd (a b c:Pt) (w:World) :
  Calls Tryz.prog 148 #[aF a,aF b,aF c] w fun e w'=>(∃ g7 g8 g3 g4 g5,e=.returned (.func (.func 211) #[] #[.pointer (some ⟨g7,0,none⟩),.pointer (some ⟨g8,0,none⟩),.pointer (some ⟨g3,0,none⟩),.pointer (some ⟨g4,0,none⟩),.pointer (some ⟨g5,0,none⟩)])/\EN w' g7 g8 g3 g4 g5 a b c)/\Below w.heap.size w w':=by
 have HS:=Lib.hid (fun W=>Dt a b c W);unfold aF at HS ⊢;go_enter Tryz.func148,Tryz.ntmps148;go_upto_region 2 with fail;obtain ⟨B,hB⟩:∃ B,lU a b c=B:=⟨_,rfl⟩;obtain ⟨W1,hW⟩:∃ W:World,W=((((w.alloc (.cells #[.int .i64 a.x,.int .i64 a.y] 39)).alloc (.cells #[.int .i64 b.x,.int .i64 b.y] 39)).alloc (.cells #[.int .i64 c.x,.int .i64 c.y] 39)).alloc (.cells #[.int .i64 B.x0,.int .i64 B.y0,.int .i64 B.x1,.int .i64 B.y1] 73)):=⟨_,rfl⟩;have m1:(if c.x<if b.x<a.x then b.x else a.x then c.x else if b.x<a.x then b.x else a.x)=B.x0:=by rw [<- hB];show _=min (min a.x b.x) c.x;split<;>split<;>omega
 have m2:(if c.y<if b.y<a.y then b.y else a.y then c.y else if b.y<a.y then b.y else a.y)=B.y0:=by rw [<- hB];show _=min (min a.y b.y) c.y;split<;>split<;>omega
 have m3:(if (if a.x<b.x then b.x else a.x)<c.x then c.x else if a.x<b.x then b.x else a.x)=B.x1:=by rw [<- hB];show _=max (max a.x b.x) c.x;split<;>split<;>omega
 have m4:(if (if a.y<b.y then b.y else a.y)<c.y then c.y else if a.y<b.y then b.y else a.y)=B.y1:=by rw [<- hB];show _=max (max a.y b.y) c.y;split<;>split<;>omega
 simp only [m1,m2,m3,m4];clear m1 m2 m3 m4;rw [<- hW];have X3:ah W1 w.heap.size 39 #[.int .i64 a.x,.int .i64 a.y]:=by rw [hW];exact (((ah.made rfl _ _).alloc _).alloc _).alloc _
 have X4:ah W1 (w.heap.size+1) 39 #[.int .i64 b.x,.int .i64 b.y]:=by rw [hW];exact ((ah.made (by simp) _ _).alloc _).alloc _
 have X5:ah W1 (w.heap.size+2) 39 #[.int .i64 c.x,.int .i64 c.y]:=by rw [hW];exact (ah.made (by simp) _ _).alloc _
 have X7:ah W1 (w.heap.size+3) 73 #[.int .i64 B.x0,.int .i64 B.y0,.int .i64 B.x1,.int .i64 B.y1]:=by rw [hW];exact ah.made (by simp) _ _
 have HB1:=Lib.hid (show Below w.heap.size w W1 by rw [hW];exact bA (bA (bA (bA (bR w) _) _) _) _);have HB:=Lib.hid hB;clear hW hB;have dP:=Lib.hid X3;have dJ:=Lib.hid X4;have bP:=Lib.hid X5;have lK:=Lib.hid X7;obtain ⟨aW,aX,aY,-,-⟩:=X3.aO;obtain ⟨aU,aV,bQ,-,-⟩:=X4.aO;obtain ⟨bV,bW,dH,-,-⟩:=X5.aO;go_wp2_with fail;refine (HS.out _).mono ?_;rintro e w2 ⟨rfl,hb2⟩;have HB2:=Lib.hid hb2;have hsz:=HB1.out.size;clear hb2 X3 aW aX aY X4 aU aV bQ X5 bV bW dH;go_wp2_with fail;go_ret;have hA:=bA HB2.out (.cells #[.int .i64 (bC a b c)] 3);refine ⟨⟨_,_,_,_,_,rfl,⟨?_,ah.made rfl _ _,dP.out.keep hA,dJ.out.keep hA,bP.out.keep hA⟩⟩,bT HB1.out hA⟩;rw [HB.out];exact lK.out.keep hA
def sJ (a b c q:Pt):Bool:=decide (q≠a) && (decide (q≠b) && (decide (q≠c) && qR a b c q))
def xA (p:Pl) (a:Ar):Bool:=p.au.any fun b=>decide (b.id≠a.id) && (decide (b.via.length=0) && (decide (b.fr=a.fr) && decide (b.dst=a.dst) || decide (b.fr=a.dst) && decide (b.dst=a.fr)))
def pz (p:Pl) (a:Ar) (P:List Pt) (i:Nat):Bool :=
 fK (P.getD i aQ) && (fK (P.getD (i+1) aQ) && (fK (P.getD (i+2) aQ) && (!(decide (a.fr=a.dst) && decide (a.via.length<3)) && (!(decide (a.via.length=1) && xA p a) &&
  (!(p.nodes.any fun n=>sJ (P.getD i aQ) (P.getD (i+1) aQ) (P.getD (i+2) aQ) n.pt) && !(p.au.any fun b=>b.via.any (sJ (P.getD i aQ) (P.getD (i+1) aQ) (P.getD (i+2) aQ))))))))
def oM (p:Pl) (arc i:Int):Bool :=
 match findAr p.au arc with
 | none=>false
 | some a=>if i<0\/(a.via.length:Int)<=i then false else if jk p a=true then pz p a (aK p a) i.toNat else false
structure Cd where
 id:Int
 k:Nat
 n:Int
def nH (P:List Pt) (k:Nat):Int:=let t:=jF (P.getD k aQ) (P.getD (k+1) aQ) (P.getD (k+2) aQ);if t<0 then -t else t
def oN (p:Pl) (aI:Int) (a:Ar) (P:List Pt) (m:Nat):List Cd :=
 ((List.range m).filter fun k=>decide (nH P k<aI) && pz p a P k).map fun k=>⟨a.id,k,nH P k⟩
def lV (p:Pl) (aI:Int) (id:Int):List Cd :=
 match findAr p.au id with
 | none=>[]
 | some a=>if jk p a=true then oN p aI a (aK p a) a.via.length else []
def mV (s:Option Cd) (c:Cd):Option Cd :=
 match s with
 | none=>some c
 | some b=>if (if c.n≠b.n then decide (c.n<b.n) else decide (c.id<b.id) || decide (c.id=b.id) && decide (c.k<b.k))=true then some c else some b
def mW (s:Option Cd) (c:Cd):Option Cd :=
 match s with
 | none=>some c
 | some b=>if c.n<b.n\/c.n=b.n/\c.id<b.id then some c else some b
theorem Zm (p:Pl) (aI:Int) (a:Ar) (P:List Pt) (m:Nat):oN p aI a P (m+1)=oN p aI a P m++if (decide (nH P m<aI) && pz p a P m)=true then [⟨a.id,m,nH P m⟩] else []:=by
 unfold oN;rw [List.range_succ,List.filter_append,List.map_append];congr 1;simp only [List.filter_cons,List.filter_nil];split<;>rfl
theorem Qw {p:Pl} {aI:Int} {a:Ar} {P:List Pt} {m:Nat} {c:Cd} (h:c∈oN p aI a P m):c.id=a.id/\c.k<m/\c.n=nH P c.k/\c.n<aI/\pz p a P c.k=true:=by
 unfold oN at h;obtain ⟨k,hk,rfl⟩:=List.mem_map.1 h;rw [List.mem_filter,List.mem_range,Bool.and_eq_true,decide_eq_true_eq] at hk;exact ⟨rfl,hk.1,rfl,hk.2.1,hk.2.2⟩
theorem Zn {p:Pl} {aI id:Int} {c:Cd} (h:c∈lV p aI id):c.id=id:=by
 unfold lV at h
 cases e:findAr p.au id with
 | none=>rw [e] at h;cases h
 | some a =>
  rw [e] at h;simp only at h;split at h
  ·have:=(Qw h).1
   have hf:=List.find?_some e;rw [this];simpa using hf
  · cases h
def jB (p:Pl) (aI:Int) (st:List Int×Option Cd) (a:Ar):List Int×Option Cd:=if decide (a.id∈st.1)=true then st else (st.1++[a.id],(lV p aI a.id).foldl mV st.2)
def KY (p:Pl) (aI:Int) (l:List Ar) (s:Option Cd):Option Cd:=l.foldl (fun s a=>(lV p aI a.id).foldl mW s) s
def pF (p:Pl) (aI:Int):Option Cd:=(p.au.foldl (jB p aI) ([],none)).2
def qU (b c:Cd):Prop:=¬ (c.n<b.n\/c.n=b.n/\c.id<b.id)
theorem agf (s:Option Cd) (c:Cd):∃ b,mW s c=some b/\qU b c/\(∀ d,s=some d->qU b d)/\(b=c\/s=some b):=by
 unfold mW qU
 cases s with
 | none=>exact ⟨c,rfl,by omega,(fun d h=>by cases h),.inl rfl⟩
 | some b =>
  simp only;split
  · exact ⟨c,rfl,by omega,(fun d h=>by injection h with h;subst h;omega),.inl rfl⟩
  ·rename_i h;exact ⟨b,rfl,h,(fun d h=>by injection h with h;subst h;omega),.inr rfl⟩
theorem qU.trans {a b c:Cd} (h1:qU a b) (h2:qU b c):qU a c:=by unfold qU at *;omega
theorem KZ:∀ (l:List Cd) (s:Option Cd),(∀ d,s=some d->∃ b,l.foldl mW s=some b/\qU b d)/\(∀ c∈l,∃ b,l.foldl mW s=some b/\qU b c)/\(∀ b,l.foldl mW s=some b->b∈l\/s=some b)
 | [],s=>⟨fun d h=>⟨d,h,by unfold qU;omega⟩,(fun c h=>by cases h),fun b h=>.inr h⟩
 | c::l,s=>by
  obtain ⟨b,e,n1,n2,ho⟩:=agf s c;obtain ⟨f1,f2,f3⟩:=KZ l (mW s c);obtain ⟨z,ez,nz⟩:=f1 b e;refine ⟨fun d hd=>⟨z,ez,nz.trans (n2 d hd)⟩,fun x hx=>?_,fun y hy=>?_⟩
  ·rcases List.mem_cons.1 hx with rfl | hx
   · exact ⟨z,ez,nz.trans n1⟩
   · exact f2 x hx
  ·rcases f3 y hy with h | h
   · exact .inl (List.mem_cons_of_mem _ h)
   ·rw [e] at h;injection h with h;subst h;rcases ho with rfl | ho
    · exact .inl List.mem_cons_self
    · exact .inr ho
theorem Zo:∀ (l:List Cd) (b:Cd),(∀ c∈l,qU b c)->l.foldl mW (some b)=some b
 | [],_,_=>rfl
 | c::l,b,h=>by
  have e:mW (some b) c=some b:=by unfold mW;exact if_neg (h c List.mem_cons_self)
  rw [List.foldl_cons,e];exact Zo l b fun x hx=>h x (List.mem_cons_of_mem _ hx)
theorem agh {s:Option Cd} {c:Cd} (h:∀ b,s=some b->c.id=b.id->b.k<=c.k):mV s c=mW s c:=by
 unfold mV mW
 cases s with
 | none=>rfl
 | some b =>
  have:=h b rfl
  simp only;by_cases e:c.n≠b.n
  ·rw [if_pos e];simp only [decide_eq_true_eq];by_cases g:c.n<b.n
   · rw [if_pos g,if_pos (.inl g)]
   · rw [if_neg g,if_neg (by omega)]
  ·rw [if_neg e];simp only [Bool.or_eq_true,Bool.and_eq_true,decide_eq_true_eq];by_cases g:c.id<b.id
   · rw [if_pos (.inl g),if_pos (by omega)]
   · rw [if_neg (by omega),if_neg (by omega)]
theorem Zp (p:Pl) (aI:Int) (a:Ar) (P:List Pt) (s:Option Cd) (hs:∀ b,s=some b->b.id≠a.id):∀ m,(oN p aI a P m).foldl mV s=(oN p aI a P m).foldl mW s
 | 0=>rfl
 | m+1=>by
  rw [Zm,List.foldl_append,List.foldl_append,Zp p aI a P s hs m];split
  ·show mV _ _=mW _ _
   refine agh fun b hb hid=>?_;rcases (KZ _ _).2.2 b hb with h | h
   ·have:=(Qw h).2.1
    show b.k<=m
    omega
   · exact absurd hid.symm (hs b h)
  · rfl
theorem agi (p:Pl) (aI id:Int) (s:Option Cd) (hs:∀ b,s=some b->b.id≠id):(lV p aI id).foldl mV s=(lV p aI id).foldl mW s:=by
 unfold lV
 cases e:findAr p.au id with
 | none=>rfl
 | some a =>
  have hf:a.id=id:=by simpa using List.find?_some e
  simp only;split
  · exact Zp p aI a _ s (by rw [hf];exact hs) _
  · rfl
theorem Qx (p:Pl) (aI:Int):∀ (l:List Ar) (st:List Int×Option Cd),(∀ b,st.2=some b->b.id∈st.1)->(∀ id∈st.1,∀ c∈lV p aI id,∃ b,st.2=some b/\qU b c)->(l.foldl (jB p aI) st).2=KY p aI l st.2
 | [],_,_,_=>rfl
 | a::l,(seen,s),h1,h2=>by
  rw [List.foldl_cons]
  show _=KY p aI l ((lV p aI a.id).foldl mW s)
  simp only at h1 h2;have hst:jB p aI (seen,s) a=if decide (a.id∈seen)=true then (seen,s) else (seen++[a.id],(lV p aI a.id).foldl mV s):=rfl;rw [hst];by_cases e:a.id∈seen
  ·rw [if_pos (by simpa using e),Qx p aI l (seen,s) h1 h2];congr 1;symm;have h3:=h2 _ e
   cases s with
   | none =>
    cases hc:lV p aI a.id with
    | nil=>rfl
    | cons c t =>
     obtain ⟨b,hb,-⟩:=h3 c (by rw [hc];exact List.mem_cons_self)
     cases hb
   | some b =>
    refine Zo _ _ fun c hc=>?_;obtain ⟨b',hb,hn⟩:=h3 c hc;injection hb with hb;subst hb;exact hn
  ·rw [if_neg (by simpa using e),agi p aI a.id s (fun b hb hid=>e (hid ▸ h1 b hb))];obtain ⟨f1,f2,f3⟩:=KZ (lV p aI a.id) s;refine Qx p aI l _ (fun b hb=>?_) (fun id hid c hc=>?_)
   ·rcases f3 b hb with h | h
    · rw [Zn h];exact List.mem_append_right _ (List.mem_singleton.2 rfl)
    · exact List.mem_append_left _ (h1 b h)
   ·rcases List.mem_append.1 hid with hid | hid
    ·obtain ⟨b,hb,hn⟩:=h2 id hid c hc;obtain ⟨z,hz,hz2⟩:=f1 b hb;exact ⟨z,hz,hz2.trans hn⟩
    ·rw [List.mem_singleton] at hid;subst hid;exact f2 c hc
theorem agj (p:Pl) (aI:Int):pF p aI=KY p aI p.au none:=Qx p aI p.au ([],none) (fun b h=>by cases h) (fun id h=>by cases h)
def nI (arc:Int) (i:Nat):List Ar->List Ar
 | []=>[]
 | a::l=>if a.id=arc then ⟨a.id,a.fr,a.dst,a.via.eraseIdx i,a.left,a.right⟩::l else a::nI arc i l
def Qy (p:Pl) (arc:Int) (i:Nat):Pl:=⟨p.nodes,nI arc i p.au,p.faces⟩
def sK (p:Pl) (aI:Int):Option Pl:=(pF p aI).map fun c=>Qy p c.id c.k
def qV (l:List Ar):Nat:=(l.map (·.via.length)).sum
def La (aI:Int):Nat->Pl->Pl
 | 0,p=>p
 | n+1,p=>match sK p aI with
  | none=>p
  | some q=>La aI n q
def xB (p:Pl) (aI:Int):Pl:=La aI (qV p.au) p
theorem Zq {arc:Int} {i:Nat}:∀ {l:List Ar} {a:Ar},findAr l arc=some a->i<a.via.length->qV (nI arc i l)+1=qV l
 | [],a,h,_=>by cases h
 | b::l,a,h,hi=>by
  unfold findAr at h;rw [List.find?_cons] at h;unfold nI;by_cases e:b.id=arc
  ·rw [show (b.id == arc)=true by simpa using e] at h;injection h with h;subst h;rw [if_pos e];unfold qV;simp only [List.map_cons,List.sum_cons,List.length_eraseIdx];rw [if_pos hi];omega
  ·rw [show (b.id == arc)=false by simpa using e] at h;rw [if_neg e];have ih:=Zq (l:=l) h hi;unfold qV at *;simp only [List.map_cons,List.sum_cons];omega
theorem Qz (arc:Int) (i:Nat):∀ l:List Ar,(nI arc i l).length=l.length
 | []=>rfl
 | b::l=>by
  unfold nI;split
  · rfl
  · rw [List.length_cons,List.length_cons,Qz arc i l]
theorem Zr {p:Pl} {aI:Int} {c:Cd} (h:pF p aI=some c):∃ a,findAr p.au c.id=some a/\a.id=c.id/\jk p a=true/\c.k<a.via.length/\c.n=nH (aK p a) c.k/\c.n<aI/\pz p a (aK p a) c.k=true:=by
 rw [agj] at h;unfold KY at h;have key:∀ (l:List Ar) (s:Option Cd),l.foldl (fun s a=>(lV p aI a.id).foldl mW s) s=some c->s=some c\/∃ id,c∈lV p aI id:=by
  intro l
  induction l with
  | nil=>exact fun s h=>.inl h
  | cons a l ih =>
   intro s h;rw [List.foldl_cons] at h;rcases ih _ h with e | e
   ·rcases (KZ _ _).2.2 c e with g | g
    · exact .inr ⟨_,g⟩
    · exact .inl g
   · exact .inr e
 rcases key _ _ h with e | ⟨id,e⟩
 · cases e
 have hid:=Zn e;unfold lV at e
 cases hf:findAr p.au id with
 | none=>rw [hf] at e;cases e
 | some a =>
  rw [hf] at e;simp only at e;split at e
  ·rename_i he;obtain ⟨h1,h2,h3,h4,h5⟩:=Qw e;exact ⟨a,by rw [hid,hf],h1.symm,he,h2,h3,h4,h5⟩
  · cases e
theorem Zt {p q:Pl} {aI:Int} (h:sK p aI=some q):qV q.au+1=qV p.au:=by
 unfold sK at h
 cases e:pF p aI with
 | none=>rw [e] at h;cases h
 | some c =>
  rw [e] at h;injection h with h;subst h;obtain ⟨a,hf,-,-,hk,-⟩:=Zr e;exact Zq hf hk
theorem agk {p q:Pl} {aI:Int} (h:sK p aI=some q):xB p aI=xB q aI:=by
 have ht:=Zt h;unfold xB;rw [<- ht];generalize qV q.au=n;unfold La;rw [h]
 cases n<;>rfl
theorem agl {p:Pl} {aI:Int} (h:sK p aI=none):xB p aI=p:=by
 unfold xB
 cases qV p.au with
 | zero=>rfl
 | succ n=>unfold La;rw [h]
def sN (a b:Ar):Bool:=decide (b.id≠a.id) && (decide (b.via.length=0) && (decide (b.fr=a.fr) && decide (b.dst=a.dst) || decide (b.fr=a.dst) && decide (b.dst=a.fr)))
theorem Zu (p:Pl) (a:Ar):xA p a=p.au.any (sN a):=rfl
def Lc (f:Ar->Bool) (l:List Ar) (r:Int):Prop:=(r=-1/\∀ j (hj:j<l.length),f l[j]=false)\/∃ (k:Nat) (hk:k<l.length),r=(k:Int)/\f l[k]=true/\∀ j (hj:j<l.length),j<k->f l[j]=false
theorem Lc.any {f:Ar->Bool} {l:List Ar} {r:Int} (h:Lc f l r):decide (0<=r)=l.any f:=by
 rcases h with ⟨rfl,h⟩ | ⟨k,hk,rfl,h,-⟩
 ·symm;rw [show decide ((0:Int)<=-1)=false by decide,<- Bool.not_eq_true,List.any_eq_true];rintro ⟨x,hx,e⟩;obtain ⟨j,hj,rfl⟩:=List.mem_iff_getElem.1 hx;rw [h j hj] at e
  cases e
 ·rw [decide_eq_true (by omega)];exact (List.any_eq_true.2 ⟨_,List.getElem_mem hk,h⟩).symm
set_option maxRecDepth 100000 in
set_option maxHeartbeats 4000000 in
theorem agm (a b:Ar) (va:Value) (A:Option Addr) (c:Nat) (g:Nat) (w:World) (h:ah w g 50 #[.int .i64 a.id,.int .i64 a.fr,.int .i64 a.dst,va,.int .i64 a.left,.int .i64 a.right]) :
  Calls Tryz.prog 210 #[gZ b (.slice A b.via.length c),.pointer (some ⟨g,0,none⟩)] w fun e w'=>e=.returned (.bool (sN a b))/\Below w.heap.size w w':=by
 obtain ⟨R,hR⟩:∃ R,sN a b=R:=⟨_,rfl⟩;rw [hR];obtain ⟨y,hy⟩:∃ y,((b.fr == a.fr) && (b.dst == a.dst) || (b.fr == a.dst) && (b.dst == a.fr))=y:=⟨_,rfl⟩;have e0:sN a b=((b.id != a.id) && (decide (b.via.length=0) && ((b.fr == a.fr) && (b.dst == a.dst) || (b.fr == a.dst) && (b.dst == a.fr)))):=by
  unfold sN;congr 1;simp [bne];rfl
 rw [e0,hy] at hR;clear e0;have HX:=Lib.hid h;unfold gZ;generalize b.via.length=n at *;obtain ⟨id,fr,dst,via,lf,rt⟩:=a;obtain ⟨id',fr',dst',ajO,Zv,Zw⟩:=b;simp only at *;have HR:=Lib.hid hR;have HY:=Lib.hid hy;clear hR hy h;go_enter Tryz.func210,Tryz.ntmps210;go_upto_region 1 with fail;obtain ⟨W1,hW⟩:∃ W:World,W=w.alloc (.cells #[.int .i64 id',.int .i64 fr',.int .i64 dst',.slice A n c,.int .i64 Zv,.int .i64 Zw] 50):=⟨_,rfl⟩;have X2:ah W1 w.heap.size 50 #[.int .i64 id',.int .i64 fr',.int .i64 dst',.slice A n c,.int .i64 Zv,.int .i64 Zw]:=by rw [hW];exact ah.made rfl _ _
 have HB1:=Lib.hid (show Below w.heap.size w W1 by rw [hW];exact bA (bR w) _);have X1:=HX.out.keep HB1.out;rw [<- hW];clear hW;obtain ⟨aZ,bf,bg,bK,X1d,X1e,X1f,-,-,-,-,-,-⟩:=X1.eY;obtain ⟨bF,bH,bI,bM,X2d,X2e,X2f,-,-,-,-,-,-⟩:=X2.eY;go_cut [4] (fun u wx=>u=.bool y/\wx=W1)
 case first =>
  have hy:=HY.out
  cases e1:(fr' == fr)<;>cases e2:(dst' == dst)<;>cases e3:(fr' == dst)<;>cases e4:(dst' == fr) <;>
   (rw [e1,e2,e3,e4] at hy
    have Hy:=Lib.hid hy;clear hy;go_wp2_with fail;go_meet
    case rel => exact ⟨by rw [<- Hy.out];rfl,rfl⟩)
 case rest =>
 obtain ⟨rfl,hw⟩:=hcut;subst hw;have hR:=HR.out
 cases e5:(id' != id)<;>cases e6:((n:Int) == 0) <;>
  (have q6:=e6
   simp only [beq_iff_eq,beq_eq_false_iff_ne,ne_eq,Int.natCast_eq_zero,Int.ofNat_eq_zero] at q6;simp only [q6,decide_true,decide_false] at hR;rw [e5] at hR;have Hr:=Lib.hid hR;clear hR q6;go_wp2_with fail;go_ret;exact ⟨by rw [<- Hr.out];simp,HB1.out⟩)
set_option maxRecDepth 100000 in
set_option maxHeartbeats 4000000 in
theorem agn (va:Value) (al:List (Ar×Value)) (a:Ar) (v:Value) (g:Nat) (w:World) (h:zT w va al) (hx:ah w g 50 #[.int .i64 a.id,.int .i64 a.fr,.int .i64 a.dst,v,.int .i64 a.left,.int .i64 a.right]) (hlen:al.length<=1000000) :
  Calls Tryz.prog 154 #[va,.func (.func 210) #[] #[.pointer (some ⟨g,0,none⟩)]] w fun e w'=>(∃ r,e=.returned (.int .i64 r)/\Lc (sN a) (al.map (·.1)) r)/\Below w.heap.size w w':=by
 obtain ⟨⟨A,c,rfl,hn,hc,hR⟩,hV⟩:=h;have HR:=Lib.hid hR;have HV:=Lib.hid hV;have HX:=Lib.hid hx;obtain ⟨L,hL⟩:∃ L:List Ar,al.map (·.1)=L:=⟨_,rfl⟩;obtain ⟨f,hf⟩:∃ f:Ar->Bool,sN a=f:=⟨_,rfl⟩;have mX:=Lib.hid (show L.length=al.length by rw [<- hL,List.length_map]);have H8:=Lib.hid (fun k (hk:k<L.length) (hk':k<al.length)=>show L[k]=al[k].1 from by subst hL;rw [List.getElem_map]);have HF:=Lib.hid (fun x=>congrFun hf x);rw [hL,hf];clear hR hV hx hL hf;go_enter Tryz.func154,Tryz.ntmps154;go_wp2_with fail;go_loopw [8] (fun u wr=>∃ k:Nat,k<=al.length/\u=.int .i64 k/\(∀ j (hj:j<L.length),j<k->f L[j]=false)/\Below w.heap.size w wr) (fun u _=>al.length-(intOf u).toNat)
 case atStart => exact ⟨0,Nat.zero_le _,rfl,fun j _ h=>by omega,bR w⟩
 case round =>
  obtain ⟨k,hk,rfl,hno,hb⟩:=hrel;obtain ⟨wo,rfl⟩:∃ wo:World,wo=wr:=⟨_,rfl⟩;have Hb:=Lib.hid hb;have jg:=Lib.hid hno;clear hb hno;by_cases hlt:k<al.length
  ·obtain ⟨b,o,rfl,hlb,c0,c1,c2,c3,c4,c5⟩:=(HR.out.mono Hb.out).ar hlt;obtain ⟨Av,cv,hva,-⟩:=HV.out k hlt;have hkm:k<L.length:=by rw [mX.out];exact hlt
   have he:=Lib.hid (H8.out k hkm hlt);rw [hva] at c3;have HP:=Lib.hid (fun W (hW:Below w.heap.size w W)=>show Calls Tryz.prog 210 #[gZ al[k].1 (.slice Av al[k].1.via.length cv),.pointer (some ⟨g,0,none⟩)] W fun e w'=>e=.returned (.bool (f al[k].1))/\Below W.heap.size W w' from by rw [<- HF.out];exact agm a al[k].1 v Av cv g W (HX.out.keep hW));obtain ⟨z,hz⟩:∃ z,f al[k].1=z:=⟨_,rfl⟩;have HZ:=Lib.hid hz;rw [hz] at HP;unfold gZ at HP;clear hz hva;have k1:(k:Int)<al.length:=by omega
   have k2:0<=(k:Int):=by omega
   go_wp2_with fail;refine (HP.out _ Hb.out).mono ?_;rintro e w2 ⟨rfl,hb2⟩;have HB2:=Lib.hid (bT Hb.out hb2);clear hb2 c0 c1 c2 c3 c4 c5
   cases z
   case true =>
    go_wp2_with fail;go_ret;exact ⟨⟨_,rfl,.inr ⟨k,hkm,rfl,by rw [he.out];exact HZ.out,jg.out⟩⟩,HB2.out⟩
   case false =>
    go_wp2_with fail;go_roundw
    case rel => exact ⟨k+1,by omega,by go_num,fun j hj hjk=>if e:j<k then jg.out j hj e else by
     have:j=k:=by omega
     subst this;rw [he.out];exact HZ.out,HB2.out⟩
    case measure => simp [intOf];omega
  ·obtain rfl:k=al.length:=by omega
   go_wp2_with fail;go_ret;exact ⟨⟨_,rfl,.inl ⟨rfl,fun j hj=>jg.out j hj (by rw [mX.out] at hj;exact hj)⟩⟩,Hb.out⟩
set_option maxRecDepth 100000 in
set_option maxHeartbeats 4000000 in
theorem agp (b:Ar) (arc:Int) (va:Value) (g:Nat) (w:World) (h:ah w g 3 #[.int .i64 arc]) :
  Calls Tryz.prog 155 #[gZ b va,.pointer (some ⟨g,0,none⟩)] w fun e w'=>e=.returned (.bool (b.id == arc))/\Below w.heap.size w w':=by
 have hA:=h.alloc (.cells #[.int .i64 b.id,.int .i64 b.fr,.int .i64 b.dst,va,.int .i64 b.left,.int .i64 b.right] 50);have hB:=ah.made (w:=w) rfl 50 #[.int .i64 b.id,.int .i64 b.fr,.int .i64 b.dst,va,.int .i64 b.left,.int .i64 b.right];unfold gZ;go_enter Tryz.func155,Tryz.ntmps155;go_upto_region 1 with fail;obtain ⟨W1,hW⟩:∃ W:World,W=w.alloc (.cells #[.int .i64 b.id,.int .i64 b.fr,.int .i64 b.dst,va,.int .i64 b.left,.int .i64 b.right] 50):=⟨_,rfl⟩;rw [<- hW] at hA hB ⊢;have HB1:=Lib.hid (show Below w.heap.size w W1 by rw [hW];exact bA (bR w) _);clear hW h;obtain ⟨hAl,hAa,-⟩:=hA.fC;obtain ⟨hBl,hBa,hBb,hBc,hBd,hBe,hBf,-,-,-,-,-,-⟩:=hB.eY;go_wp2_with fail;go_ret;exact ⟨rfl,HB1.out⟩
set_option maxRecDepth 100000 in
set_option maxHeartbeats 4000000 in
theorem agq (va:Value) (al:List (Ar×Value)) (arc:Int) (g:Nat) (w:World) (h:zT w va al) (hx:ah w g 3 #[.int .i64 arc]) (hlen:al.length<=1000000) :
  Calls Tryz.prog 154 #[va,.func (.func 155) #[] #[.pointer (some ⟨g,0,none⟩)]] w fun e w'=>(∃ r,e=.returned (.int .i64 r)/\Lc (fun x:Ar=>x.id == arc) (al.map (·.1)) r)/\Below w.heap.size w w':=by
 obtain ⟨⟨A,c,rfl,hn,hc,hR⟩,hV⟩:=h;have HR:=Lib.hid hR;have HV:=Lib.hid hV;have HX:=Lib.hid hx;obtain ⟨L,hL⟩:∃ L:List Ar,al.map (·.1)=L:=⟨_,rfl⟩;obtain ⟨f,hf⟩:∃ f:Ar->Bool,(fun x:Ar=>x.id == arc)=f:=⟨_,rfl⟩;have mX:=Lib.hid (show L.length=al.length by rw [<- hL,List.length_map]);have H8:=Lib.hid (fun k (hk:k<L.length) (hk':k<al.length)=>show L[k]=al[k].1 from by subst hL;rw [List.getElem_map]);have HF:=Lib.hid (fun x=>congrFun hf x);rw [hL,hf];clear hR hV hx hL hf;go_enter Tryz.func154,Tryz.ntmps154;go_wp2_with fail;go_loopw [8] (fun u wr=>∃ k:Nat,k<=al.length/\u=.int .i64 k/\(∀ j (hj:j<L.length),j<k->f L[j]=false)/\Below w.heap.size w wr) (fun u _=>al.length-(intOf u).toNat)
 case atStart => exact ⟨0,Nat.zero_le _,rfl,fun j _ h=>by omega,bR w⟩
 case round =>
  obtain ⟨k,hk,rfl,hno,hb⟩:=hrel;obtain ⟨wo,rfl⟩:∃ wo:World,wo=wr:=⟨_,rfl⟩;have Hb:=Lib.hid hb;have jg:=Lib.hid hno;clear hb hno;by_cases hlt:k<al.length
  ·obtain ⟨b,o,rfl,hlb,c0,c1,c2,c3,c4,c5⟩:=(HR.out.mono Hb.out).ar hlt;obtain ⟨Av,cv,hva,-⟩:=HV.out k hlt;have hkm:k<L.length:=by rw [mX.out];exact hlt
   have he:=Lib.hid (H8.out k hkm hlt);rw [hva] at c3;have HP:=Lib.hid (fun W (hW:Below w.heap.size w W)=>show Calls Tryz.prog 155 #[gZ al[k].1 (.slice Av al[k].1.via.length cv),.pointer (some ⟨g,0,none⟩)] W fun e w'=>e=.returned (.bool (f al[k].1))/\Below W.heap.size W w' from by rw [<- HF.out];exact agp al[k].1 arc (.slice Av al[k].1.via.length cv) g W (HX.out.keep hW));obtain ⟨z,hz⟩:∃ z,f al[k].1=z:=⟨_,rfl⟩;have HZ:=Lib.hid hz;rw [hz] at HP;unfold gZ at HP;clear hz hva;have k1:(k:Int)<al.length:=by omega
   have k2:0<=(k:Int):=by omega
   go_wp2_with fail;refine (HP.out _ Hb.out).mono ?_;rintro e w2 ⟨rfl,hb2⟩;have HB2:=Lib.hid (bT Hb.out hb2);clear hb2 c0 c1 c2 c3 c4 c5
   cases z
   case true =>
    go_wp2_with fail;go_ret;exact ⟨⟨_,rfl,.inr ⟨k,hkm,rfl,by rw [he.out];exact HZ.out,jg.out⟩⟩,HB2.out⟩
   case false =>
    go_wp2_with fail;go_roundw
    case rel => exact ⟨k+1,by omega,by go_num,fun j hj hjk=>if e:j<k then jg.out j hj e else by
     have:j=k:=by omega
     subst this;rw [he.out];exact HZ.out,HB2.out⟩
    case measure => simp [intOf];omega
  ·obtain rfl:k=al.length:=by omega
   go_wp2_with fail;go_ret;exact ⟨⟨_,rfl,.inl ⟨rfl,fun j hj=>jg.out j hj (by rw [mX.out] at hj;exact hj)⟩⟩,Hb.out⟩
set_option maxRecDepth 100000 in
set_option maxHeartbeats 4000000 in
theorem agr (va:Value) (al:List (Ar×Value)) (a:Ar) (v:Value) (g:Nat) (w:World) (h:zT w va al) (hx:ah w g 50 #[.int .i64 a.id,.int .i64 a.fr,.int .i64 a.dst,v,.int .i64 a.left,.int .i64 a.right]) (hlen:al.length<=1000000) :
  Calls Tryz.prog 209 #[va,.func (.func 210) #[] #[.pointer (some ⟨g,0,none⟩)]] w fun e w'=>e=.returned (.bool ((al.map (·.1)).any (sN a)))/\Below w.heap.size w w':=by
 have HI:=Lib.hid (agn va al a v g w h hx hlen);obtain ⟨⟨A,c,rfl,-⟩,-⟩:=h;clear hx;go_enter Tryz.func209,Tryz.ntmps209;go_wp2_with fail;refine HI.out.mono ?_;rintro e w1 ⟨⟨r,rfl,hr⟩,hb1⟩;have HB1:=Lib.hid hb1;have dL:=Lib.hid hr.any;clear hb1 hr;go_wp2_with fail;go_ret;exact ⟨aT (by rw [<- dL.out]),HB1.out⟩
set_option maxRecDepth 100000 in
set_option maxHeartbeats 4000000 in
theorem ags (v vv:Value) (p:Pl) (a:Ar) (w:World) (h:dh w v p) (hlen:p.au.length<=1000000) :
  Calls Tryz.prog 147 #[v,gZ a vv] w fun e w'=>e=.returned (.bool (xA p a))/\Below w.heap.size w w':=by
 obtain ⟨vn,va,vf,al,rfl,hpa,hN,hA,hF⟩:=h;rw [Zu,hpa];rw [hpa,List.length_map] at hlen;obtain ⟨z,hz⟩:∃ z,(al.map (·.1)).any (sN a)=z:=⟨_,rfl⟩;have HC:=Lib.hid (fun g W (hW:Below w.heap.size w W) hx=>agr va al a vv g W (hA.mono hW) hx hlen);rw [hz] at HC ⊢;clear hz;obtain ⟨⟨Aa,ca,rfl,-⟩,-⟩:=hA;obtain ⟨An,cn,rfl,-⟩:=hN;obtain ⟨Af,cf,rfl,-⟩:=hF;unfold gZ;generalize hnn:p.nodes.length=nn at *;generalize hnf:p.faces.length=nf at *;generalize hal:al.length=na at *;clear hpa;go_enter Tryz.func147,Tryz.ntmps147;go_upto_region 1 with fail;obtain ⟨W1,hW⟩:∃ W:World,W=(w.alloc (.cells #[.slice An nn cn,.slice Aa na ca,.slice Af nf cf] 26)).alloc (.cells #[.int .i64 a.id,.int .i64 a.fr,.int .i64 a.dst,vv,.int .i64 a.left,.int .i64 a.right] 50):=⟨_,rfl⟩;have X2:ah W1 w.heap.size 26 #[.slice An nn cn,.slice Aa na ca,.slice Af nf cf]:=by rw [hW];exact (ah.made rfl _ _).alloc _
 have dP:=Lib.hid (show ah W1 (w.heap.size+1) 50 #[.int .i64 a.id,.int .i64 a.fr,.int .i64 a.dst,vv,.int .i64 a.left,.int .i64 a.right] by rw [hW];exact ah.made (by simp) _ _);have HB1:=Lib.hid (show Below w.heap.size w W1 by rw [hW];exact bA (bA (bR w) _) _);rw [<- hW];clear hW hnn hnf hal;obtain ⟨bF,bH,bI,bM,-,-,-⟩:=X2.aJ;go_wp2_with fail;refine (HC.out _ _ HB1.out dP.out).mono ?_;rintro e w2 ⟨rfl,hb2⟩;have HB2:=Lib.hid (bT HB1.out hb2);clear hb2;go_wp2_with fail;go_ret;exact ⟨rfl,HB2.out⟩
inductive gG where
 | done
 | take (i m:Nat) (r:gG)
 | call (i m:Nat) (r:gG)
 | two (i m:Nat) (r:gG) (j m':Nat) (s:gG)
 | three (i m:Nat) (r:gG) (j m':Nat) (s:gG) (k m'':Nat) (u:gG)
 | four (i m:Nat) (r:gG) (j m':Nat) (s:gG) (k m'':Nat) (u:gG) (n m3:Nat) (v:gG)
def gG.run:Nat->Nat->Nat->gG->gG
 | 0,_,_,r=>r
 | n+1,i,m,r=>.take i (m ||| (1 <<< i)) (gG.run n (i+1) (m ||| (1 <<< i)) r)
def gG.depth:gG->Nat
 | .done=>0
 | .take _ _ r=>r.depth+1
 | .call _ _ r=>r.depth+1
 | .two _ _ r _ _ s=>Nat.max r.depth s.depth+1
 | .three _ _ r _ _ s _ _ u=>Nat.max r.depth (Nat.max s.depth u.depth)+1
 | .four _ _ r _ _ s _ _ u _ _ v=>Nat.max r.depth (Nat.max s.depth (Nat.max u.depth v.depth))+1
def mY (ops:Array Oper):gG->Array Bool->Prop
 | .done,l=>Region.ready .any ops l=[]
 | .take i _ r,l=>Region.free .any ops l i=true/\(Region.ready .any ops l).contains i=true/\mY ops r (l.setIfInBounds i true)
 | .call i _ r,l=>Region.ready .any ops l=[i]/\mY ops r (l.setIfInBounds i true)
 | .two i _ r j _ s,l=>Region.ready .any ops l=[i,j]/\mY ops r (l.setIfInBounds i true)/\mY ops s (l.setIfInBounds j true)
 | .three i _ r j _ s k _ u,l=>Region.ready .any ops l=[i,j,k]/\mY ops r (l.setIfInBounds i true)/\mY ops s (l.setIfInBounds j true)/\mY ops u (l.setIfInBounds k true)
 | .four i _ r j _ s k _ u n _ v,l=>Region.ready .any ops l=[i,j,k,n]/\mY ops r (l.setIfInBounds i true)/\mY ops s (l.setIfInBounds j true)/\mY ops u (l.setIfInBounds k true)/\mY ops v (l.setIfInBounds n true)
def kZ (ops:Array Oper):gG->Nat->Bool
 | .done,m=>(tq ops m).isEmpty
 | .take i m' r,m=>Nat.beq m' (m ||| (1 <<< i)) && (Jf ops m i && (Dp ops m i && kZ ops r m'))
 | .call i m' r,m=>Nat.beq m' (m ||| (1 <<< i)) && (decide (tq ops m=[i]) && kZ ops r m')
 | .two i m' r j m'' s,m=>Nat.beq m' (m ||| (1 <<< i)) && (Nat.beq m'' (m ||| (1 <<< j)) && (decide (tq ops m=[i,j]) && (kZ ops r m' && kZ ops s m'')))
 | .three i m' r j m'' s k m3 u,m=>Nat.beq m' (m ||| (1 <<< i)) && (Nat.beq m'' (m ||| (1 <<< j)) && (Nat.beq m3 (m ||| (1 <<< k)) && (decide (tq ops m=[i,j,k]) && (kZ ops r m' && (kZ ops s m'' && kZ ops u m3)))))
 | .four i m' r j m'' s k m3 u n m4 v,m=>Nat.beq m' (m ||| (1 <<< i)) && (Nat.beq m'' (m ||| (1 <<< j)) && (Nat.beq m3 (m ||| (1 <<< k)) && (Nat.beq m4 (m ||| (1 <<< n)) && (decide (tq ops m=[i,j,k,n]) && (kZ ops r m' && (kZ ops s m'' && (kZ ops u m3 && kZ ops v m4)))))))
theorem sO (ops:Array Oper):∀ (p:gG) (m:Nat),m<2 ^ ops.size->kZ ops p m=true->mY ops p (lY ops.size m)
 | .done,m,hm,h=>by
  simp only [kZ,List.isEmpty_iff] at h
  show Region.ready .any ops _=[]
  rw [uU _ _ hm,h]
 | .take i m' r,m,hm,h=>by
  simp only [kZ,Bool.and_eq_true,Nat.beq_eq] at h;obtain ⟨h1,h2,h3,h4⟩:=h;have hi:=Uo h3;refine ⟨by rw [Un];exact h2,?_,?_⟩
  ·rw [uU _ _ hm,List.contains_iff_mem];exact List.mem_filter.2 ⟨List.mem_range.2 hi,h3⟩
  ·rw [nN _ _ _ hi,<- h1];exact sO ops r m' (by rw [h1];exact nO hm hi) h4
 | .call i m' r,m,hm,h=>by
  simp only [kZ,Bool.and_eq_true,Nat.beq_eq,decide_eq_true_eq] at h;obtain ⟨h1,h2,h3⟩:=h;have hi:i<ops.size:=qg (m:=m) (by rw [h2];simp);refine ⟨by rw [uU _ _ hm,h2],?_⟩;rw [nN _ _ _ hi,<- h1];exact sO ops r m' (by rw [h1];exact nO hm hi) h3
 | .two i m' r j m'' s,m,hm,h=>by
  simp only [kZ,Bool.and_eq_true,Nat.beq_eq,decide_eq_true_eq] at h;obtain ⟨h1,h2,h3,h4,h5⟩:=h;have hi:i<ops.size:=qg (m:=m) (by rw [h3];simp);have hj:j<ops.size:=qg (m:=m) (by rw [h3];simp);refine ⟨by rw [uU _ _ hm,h3],?_,?_⟩
  ·rw [nN _ _ _ hi,<- h1];exact sO ops r m' (by rw [h1];exact nO hm hi) h4
  ·rw [nN _ _ _ hj,<- h2];exact sO ops s m'' (by rw [h2];exact nO hm hj) h5
 | .three i m' r j m'' s k m3 u,m,hm,h=>by
  simp only [kZ,Bool.and_eq_true,Nat.beq_eq,decide_eq_true_eq] at h;obtain ⟨h1,h2,h6,h3,h4,h5,h7⟩:=h;have hi:i<ops.size:=qg (m:=m) (by rw [h3];simp);have hj:j<ops.size:=qg (m:=m) (by rw [h3];simp);have hk:k<ops.size:=qg (m:=m) (by rw [h3];simp);refine ⟨by rw [uU _ _ hm,h3],?_,?_,?_⟩
  ·rw [nN _ _ _ hi,<- h1];exact sO ops r m' (by rw [h1];exact nO hm hi) h4
  ·rw [nN _ _ _ hj,<- h2];exact sO ops s m'' (by rw [h2];exact nO hm hj) h5
  ·rw [nN _ _ _ hk,<- h6];exact sO ops u m3 (by rw [h6];exact nO hm hk) h7
 | .four i m' r j m'' s k m3 u n m4 v,m,hm,h=>by
  simp only [kZ,Bool.and_eq_true,Nat.beq_eq,decide_eq_true_eq] at h;obtain ⟨h1,h2,h6,h8,h3,h4,h5,h7,h9⟩:=h;have hi:i<ops.size:=qg (m:=m) (by rw [h3];simp);have hj:j<ops.size:=qg (m:=m) (by rw [h3];simp);have hk:k<ops.size:=qg (m:=m) (by rw [h3];simp);have hn:n<ops.size:=qg (m:=m) (by rw [h3];simp);refine ⟨by rw [uU _ _ hm,h3],?_,?_,?_,?_⟩
  ·rw [nN _ _ _ hi,<- h1];exact sO ops r m' (by rw [h1];exact nO hm hi) h4
  ·rw [nN _ _ _ hj,<- h2];exact sO ops s m'' (by rw [h2];exact nO hm hj) h5
  ·rw [nN _ _ _ hk,<- h6];exact sO ops u m3 (by rw [h6];exact nO hm hk) h7
  ·rw [nN _ _ _ hn,<- h8];exact sO ops v m4 (by rw [h8];exact nO hm hn) h9
section
variable {P:Program} {ops:Array Oper} {Q:Exit->Act->World->Prop} {S:World->Prop}
def mZ (P:Program) (ops:Array Oper) (Q:Exit->Act->World->Prop) (S:World->Prop) (p:gG) (a:Act) (w:World):Prop :=
 ∀ (l:Array Bool) (f:Nat),Region.noSelect ops=true->mY ops p l->p.depth<=f->wpAnyH P .any ops Q S f l a w
theorem agt {id:Nat} {a:Act} {w:World} (S:World->Prop) (p:gG) (hm:P.follows .mixedOrders=true) (hS:S w.drew)
  (hsel:Region.noSelect ops=true) (hp:kZ ops p 0=true) (hd:p.depth<=ops.size)
  (h:∀ ops' Q',PLift (ops'=ops)->PLift (∀ a w,Q .normal a w->Q' .normal a w)->S w.drew->mZ P ops' (NoPanic Q') S p a w.drew):(Code.region id ops true).wp P Q a w :=
 wp_region_noPanic (wp_region_held_drew hm hS fun hS=>h ops Q ⟨rfl⟩ ⟨fun _ _ h=>h⟩ hS _ _ hsel (by have:=sO ops p 0 (Nat.pow_pos (by omega)) hp;rwa [Ul] at this) hd)
theorem agu {i m:Nat} {oi:Oper} {r:gG} {a:Act} {w:World} (hi:ops[i]? = some oi) (hS:S w)
  (h:∃ v:Value,YieldsIf P ops S oi v a/\mZ P ops (NoPanic Q) S r (a.put oi.dst v) w):mZ P ops (NoPanic Q) S (.take i m r) a w:=by
 obtain ⟨v,hy,h⟩:=h;intro l f hsel hp hd;simp only [mY] at hp
 cases f with
 | zero=>simp [gG.depth] at hd
 | succ f=>exact wpAnyH_take hi hsel hp.1 hp.2.1 (fun _ _ _ h=>h) hy hS (h _ _ hsel hp.2.2 (by simpa [gG.depth] using hd))
theorem jC {i m:Nat} {oi:Oper} {r:gG} {a:Act} {w:World} (hi:ops[i]? = some oi)
  (h:∀ K':Act->World->Prop,Shut (∀ a w,S w->(S w->mZ P ops (NoPanic Q) S r a w)->K' a w)->if Region.wanted oi (yielded ops a.tmps)=true then Oper.wp P oi a w K' (NoPanic Q) else K' (a.put oi.dst undef) w) :
  mZ P ops (NoPanic Q) S (.call i m r) a w:=by
 intro l f hsel hp hd;simp only [mY] at hp
 cases f with
 | zero=>simp [gG.depth] at hd
 | succ f=>exact wpAnyH_ready hp.1 (by simp) (AllReadyH.cons hi (fun K' hK=>h K' (fun a w hS hW=>hK.out a w hS fun hS=>hW hS _ _ hsel hp.2 (by simpa [gG.depth] using hd))) AllReadyH.nil)
theorem QA {i j m m':Nat} {oi oj:Oper} {r s:gG} {a:Act} {w:World} (hi:ops[i]? = some oi) (hj:ops[j]? = some oj)
  (h:∀ K':Act->World->Prop,Shut (∀ a w,S w->(S w->mZ P ops (NoPanic Q) S r a w)->K' a w)->if Region.wanted oi (yielded ops a.tmps)=true then Oper.wp P oi a w K' (NoPanic Q) else K' (a.put oi.dst undef) w)
  (h':∀ K':Act->World->Prop,Shut (∀ a w,S w->(S w->mZ P ops (NoPanic Q) S s a w)->K' a w)->if Region.wanted oj (yielded ops a.tmps)=true then Oper.wp P oj a w K' (NoPanic Q) else K' (a.put oj.dst undef) w) :
  mZ P ops (NoPanic Q) S (.two i m r j m' s) a w:=by
 intro l f hsel hp hd;simp only [mY] at hp
 cases f with
 | zero=>simp [gG.depth] at hd
 | succ f =>
  simp only [gG.depth,Nat.add_le_add_iff_right,Nat.max_le] at hd;exact wpAnyH_ready hp.1 (by simp) (AllReadyH.cons hi (fun K' hK=>h K' (fun a w hS hW=>hK.out a w hS fun hS=>hW hS _ _ hsel hp.2.1 hd.1))
   (AllReadyH.cons hj (fun K' hK=>h' K' (fun a w hS hW=>hK.out a w hS fun hS=>hW hS _ _ hsel hp.2.2 hd.2)) AllReadyH.nil))
theorem agv {i j k m m' m'':Nat} {oi oj ok:Oper} {r s u:gG} {a:Act} {w:World} (hi:ops[i]? = some oi) (hj:ops[j]? = some oj) (hk:ops[k]? = some ok)
  (h:∀ K':Act->World->Prop,Shut (∀ a w,S w->(S w->mZ P ops (NoPanic Q) S r a w)->K' a w)->if Region.wanted oi (yielded ops a.tmps)=true then Oper.wp P oi a w K' (NoPanic Q) else K' (a.put oi.dst undef) w)
  (h':∀ K':Act->World->Prop,Shut (∀ a w,S w->(S w->mZ P ops (NoPanic Q) S s a w)->K' a w)->if Region.wanted oj (yielded ops a.tmps)=true then Oper.wp P oj a w K' (NoPanic Q) else K' (a.put oj.dst undef) w)
  (h'':∀ K':Act->World->Prop,Shut (∀ a w,S w->(S w->mZ P ops (NoPanic Q) S u a w)->K' a w)->if Region.wanted ok (yielded ops a.tmps)=true then Oper.wp P ok a w K' (NoPanic Q) else K' (a.put ok.dst undef) w) :
  mZ P ops (NoPanic Q) S (.three i m r j m' s k m'' u) a w:=by
 intro l f hsel hp hd;simp only [mY] at hp
 cases f with
 | zero=>simp [gG.depth] at hd
 | succ f =>
  simp only [gG.depth,Nat.add_le_add_iff_right,Nat.max_le] at hd;exact wpAnyH_ready hp.1 (by simp) (AllReadyH.cons hi (fun K' hK=>h K' (fun a w hS hW=>hK.out a w hS fun hS=>hW hS _ _ hsel hp.2.1 hd.1))
   (AllReadyH.cons hj (fun K' hK=>h' K' (fun a w hS hW=>hK.out a w hS fun hS=>hW hS _ _ hsel hp.2.2.1 hd.2.1))
   (AllReadyH.cons hk (fun K' hK=>h'' K' (fun a w hS hW=>hK.out a w hS fun hS=>hW hS _ _ hsel hp.2.2.2 hd.2.2)) AllReadyH.nil)))
theorem EO {a:Act} {w:World} (h:Q .normal a w):mZ P ops (NoPanic Q) S .done a w:=by
 intro l f _ hp _;exact wpAnyH_done hp (NoPanic.normal h) f
theorem agw {l:List Oper} {i m:Nat} {oi:Oper} {r:gG} {a:Act} {w:World} {v:Value} (H:PLift (ops=l.toArray)) (hi:l[i]? = some oi) (hS:S w) (hg:oi.guard=none)
  (hy:∀ wq,S wq->(execOp a.eval oi).run P wq=.ok (.value v) wq) (h:mZ P ops (NoPanic Q) S r (a.put oi.dst v) w):mZ P ops (NoPanic Q) S (.take i m r) a w :=
 agu (aB H hi) hS ⟨v,.inl ⟨aN hg,hy⟩,h⟩
end
section
variable {P:Program} {ops:Array Oper} {Q:Exit->Act->World->Prop}
theorem agx {l:List Oper} {i m:Nat} {oi:Oper} {r:gG} {a:Act} {w W:World} {B:Nat} {v:Value} (H:PLift (ops=l.toArray)) (hi:l[i]? = some oi) (hS:fA B W w) (hg:oi.guard=none)
  (hy:∀ wq:World,(∀ b o,b<B->wq.cell? ⟨b,o,none⟩=W.cell? ⟨b,o,none⟩)->(execOp a.eval oi).run P wq=.ok (.value v) wq) (h:mZ P ops (NoPanic Q) (fA B W) r (a.put oi.dst v) w):mZ P ops (NoPanic Q) (fA B W) (.take i m r) a w :=
 agw H hi hS hg (fun wq hq=>hy wq (Ur hq).1) h
end
end Go.Proofs.YtialfdomhoojiaaGreat
