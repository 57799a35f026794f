import Derived.Test.YtnhdmghgjngcaaaGreatJ17
import Derived.Test.YtnhdmghgjngcaaaGreatJ01
import Derived.Test.YtnhdmghgjngcaaaGreatJ05
import Derived.Test.YtnhdmghgjngcaaaGreatGB
import Derived.Test.YtnhdmghgjngcaaaGreatJ02
import Derived.Test.YtnhdmghgjngcaaaGreatGE
import Derived.Test.YtnhdmghgjngcaaaGreatJ04
set_option linter.unusedSimpArgs false
set_option linter.unusedVariables false
namespace Go.Proofs.YtnhdmghgjngcaaaGreat
open Go.RowKit

structure Ed where
 side:Int
 upright:Bool
 line:Int
 lo:Int
 hi:Int
def posS (g:Ed):Bool:=decide (g.side=1) || decide (g.side=2)
def acrossS (g:Ed) (p:Pt):Int:=if g.upright then p.x else p.y
end Go.Proofs.YtnhdmghgjngcaaaGreat
namespace Go.Proofs.YtnhdmghgjngcaaaGreat
open Go.RowKit

def offS (g:Ed) (p:Pt):Int:=if posS g then cmpI (acrossS g p) g.line else cmpI g.line (acrossS g p)
end Go.Proofs.YtnhdmghgjngcaaaGreat
namespace Go.Proofs.YtnhdmghgjngcaaaGreat
open Go.RowKit

set_option maxRecDepth 100000 in
set_option maxHeartbeats 2000000 in
theorem gIn_spec (b:Bx) (p:Pt) (w:World):Calls Tryz.prog 67 #[bxV b,ptV p] w fun e w'=>e=.returned (.bool (inB b p))∧Below w.heap.size w w':=by
 unfold bxV ptV
 obtain ⟨q,hq⟩:∃ q,inB b p=q:=⟨_,rfl⟩
 rw [hq]
 unfold inB at hq
 have Hq:=Lib.hid hq
 clear hq
 go_enter Tryz.func67,Tryz.ntmps67
 by_cases h1:b.x0≤p.x
 case neg =>
  go_wp2_with fail
  go_ret
  exact ⟨ret_bool (by rw [← Hq.out];exact (decide_eq_false (by omega)).symm),bA (bA (bR w) _) _⟩
 by_cases h2:p.x≤b.x1
 case neg =>
  go_wp2_with fail
  go_ret
  exact ⟨ret_bool (by rw [← Hq.out];exact (decide_eq_false (by omega)).symm),bA (bA (bR w) _) _⟩
 by_cases h3:b.y0≤p.y
 case neg =>
  go_wp2_with fail
  go_ret
  exact ⟨ret_bool (by rw [← Hq.out];exact (decide_eq_false (by omega)).symm),bA (bA (bR w) _) _⟩
 by_cases h4:p.y≤b.y1
 case neg =>
  go_wp2_with fail
  go_ret
  exact ⟨ret_bool (by rw [← Hq.out];exact (decide_eq_false (by omega)).symm),bA (bA (bR w) _) _⟩
 go_wp2_with fail
 go_ret
 exact ⟨ret_bool (by rw [← Hq.out];exact (decide_eq_true (by omega)).symm),bA (bA (bR w) _) _⟩
end Go.Proofs.YtnhdmghgjngcaaaGreat
namespace Go.Proofs.YtnhdmghgjngcaaaGreat
open Go.RowKit

set_option maxHeartbeats 400000 in
theorem SValid_spec (q:Pt) (w:World):Calls Tryz.prog 48 #[ptV q] w fun e w'=>e=.returned (.bool (ptOk q))∧Below w.heap.size w w':=by
 have HI:=Lib.hid (fun W=>gIn_spec ⟨-1048576,-1048576,1048576,1048576⟩ q W)
 have he:=Lib.hid (show inB ⟨-1048576,-1048576,1048576,1048576⟩ q=ptOk q from by
  unfold inB ptOk
  rw [Bool.eq_iff_iff]
  simp only [Bool.and_eq_true,decide_eq_true_eq,and_assoc])
 unfold bxV ptV at HI
 unfold ptV
 go_enter Tryz.func48,Tryz.ntmps48
 go_wp2_with fail
 refine (HI.out _).mono ?_
 rintro e w1 ⟨rfl,hb1⟩
 have HB1:=Lib.hid (bT (bA (bR w) _) hb1)
 clear hb1
 go_wp2_with fail
 go_ret
 exact ⟨ret_bool he.out,HB1.out⟩

structure TriI (W:World) (g7 g8 g3 g4 g5:Nat) (a b c:Pt):Prop where
 bx:Blk W g7 113 #[.int .i64 (triBx a b c).x0,.int .i64 (triBx a b c).y0,.int .i64 (triBx a b c).x1,.int .i64 (triBx a b c).y1]
 tn:Blk W g8 3 #[.int .i64 (sideS a b c)]
 pa:Blk W g3 36 #[.int .i64 a.x,.int .i64 a.y]
 pb:Blk W g4 36 #[.int .i64 b.x,.int .i64 b.y]
 pc:Blk W g5 36 #[.int .i64 c.x,.int .i64 c.y]
theorem TriI.keep {W W':World} {g7 g8 g3 g4 g5:Nat} {a b c:Pt} (h:TriI W g7 g8 g3 g4 g5 a b c) (hb:Below W.heap.size W W'):TriI W' g7 g8 g3 g4 g5 a b c :=
 ⟨h.bx.keep hb,h.tn.keep hb,h.pa.keep hb,h.pb.keep hb,h.pc.keep hb⟩

set_option maxRecDepth 100000 in
set_option maxHeartbeats 4000000 in
theorem tri1_spec (a b c q:Pt) (g7 g8 g3 g4 g5:Nat) (w:World) (h:TriI w g7 g8 g3 g4 g5 a b c) :
  Calls Tryz.prog 71 #[ptV q,.pointer (some ⟨g7,0,none⟩),.pointer (some ⟨g8,0,none⟩),.pointer (some ⟨g3,0,none⟩),.pointer (some ⟨g4,0,none⟩),.pointer (some ⟨g5,0,none⟩)] w fun e w'=>e=.returned (.bool (triS a b c q))∧Below w.heap.size w w':=by
 have HI:=Lib.hid (fun W=>gIn_spec (triBx a b c) q W)
 have HO1:=Lib.hid (fun W=>On_spec a b q W);have HO2:=Lib.hid (fun W=>On_spec b c q W);have HO3:=Lib.hid (fun W=>On_spec c a q W)
 have HS1:=Lib.hid (fun W=>Side_spec a b q W);have HS2:=Lib.hid (fun W=>Side_spec b c q W);have HS3:=Lib.hid (fun W=>Side_spec c a q W)
 have b0:=side3 a b c;have b1:=side3 a b q;have b2:=side3 b c q;have b3:=side3 c a q
 have HT:=Lib.hid h
 obtain ⟨R,hR⟩:∃ R,triS a b c q=R:=⟨_,rfl⟩
 rw [hR]
 unfold triS at hR
 have HT1:=h
 obtain ⟨hbx,htn,hpa,hpb,hpc⟩:=HT1
 have HBx:=Lib.hid hbx;have HTn:=Lib.hid htn
 clear h hbx htn hpa hpb hpc
 unfold bxV ptV at HI
 unfold ptV at HO1 HO2 HO3 HS1 HS2 HS3 ⊢
 generalize inB (triBx a b c) q=z0 at *
 generalize onS a b q=o1 at *
 generalize onS b c q=o2 at *
 generalize onS c a q=o3 at *
 generalize sideS a b q=s1 at *
 generalize sideS b c q=s2 at *
 generalize sideS c a q=s3 at *
 have HRr:=Lib.hid hR
 clear hR
 go_enter Tryz.func71,Tryz.ntmps71
 go_upto_region 1 with fail
 obtain ⟨W1,hW⟩:∃ W:World,W=w.alloc (.cells #[.int .i64 q.x,.int .i64 q.y] 36):=⟨_,rfl⟩
 have X6:Blk W1 w.heap.size 36 #[.int .i64 q.x,.int .i64 q.y]:=by rw [hW];exact Blk.made rfl _ _
 have HB1:=Lib.hid (show Below w.heap.size w W1 by rw [hW];exact bA (bR w) _)
 rw [← hW]
 clear hW
 have HX6:=Lib.hid X6
 have XB:=HBx.out.keep HB1.out
 obtain ⟨X6l,X6a,X6b,-,-⟩:=X6.facts2
 obtain ⟨XBl,XBa,XBb,XBc,XBd,-,-,-,-⟩:=XB.facts4
 go_wp2_with fail
 refine (HI.out _).mono ?_
 rintro e w2 ⟨rfl,hb2⟩
 have HB2:=Lib.hid (bT HB1.out hb2)
 have HX62:=Lib.hid (HX6.out.keep hb2)
 clear hb2 X6 X6l X6a X6b XB XBl XBa XBb XBc XBd HX6 HB1
 cases z0
 case false =>
  go_wp2_with fail
  go_ret
  exact ⟨ret_bool (by rw [← HRr.out];rfl),HB2.out⟩
 have hR:=HRr.out
 rw [Bool.true_and] at hR
 clear HRr
 have XT:=HTn.out.keep HB2.out
 have X3:=HT.out.pa.keep HB2.out;have X4:=HT.out.pb.keep HB2.out;have X5:=HT.out.pc.keep HB2.out;have X6:=HX62.out
 by_cases ht:sideS a b c=0
 ·
  rw [if_pos ht] at hR
  have HRr:=Lib.hid hR
  rw [ht] at XT
  clear hR ht
  obtain ⟨X3l,X3a,X3b,-,-⟩:=X3.facts2
  obtain ⟨X4l,X4a,X4b,-,-⟩:=X4.facts2
  obtain ⟨X5l,X5a,X5b,-,-⟩:=X5.facts2
  try clear X6l
  try clear X6a
  try clear X6b
  obtain ⟨X6l,X6a,X6b,-,-⟩:=X6.facts2
  obtain ⟨XTl,XTa,-⟩:=XT.facts1
  go_wp2_with fail
  refine (HO1.out _).mono ?_
  rintro e w3 ⟨rfl,hb3⟩
  have HB3:=Lib.hid (bT HB2.out hb3)
  have X6':=HX62.out.keep hb3
  clear hb3 X3 X3l X3a X3b X4 X4l X4a X4b X5 X5l X5a X5b X6 X6l X6a X6b XT XTl XTa
  cases o1
  case true =>
   go_wp2_with fail
   go_ret
   exact ⟨ret_bool (by rw [← HRr.out];rfl),HB3.out⟩
  have X3:=HT.out.pa.keep HB3.out;have X4:=HT.out.pb.keep HB3.out;have X5:=HT.out.pc.keep HB3.out
  have HX63:=Lib.hid X6'
  try clear X3l
  try clear X3a
  try clear X3b
  obtain ⟨X3l,X3a,X3b,-,-⟩:=X3.facts2
  try clear X4l
  try clear X4a
  try clear X4b
  obtain ⟨X4l,X4a,X4b,-,-⟩:=X4.facts2
  try clear X5l
  try clear X5a
  try clear X5b
  obtain ⟨X5l,X5a,X5b,-,-⟩:=X5.facts2
  try clear X6'l
  try clear X6'a
  try clear X6'b
  try clear X6'fa
  try clear X6'fb
  obtain ⟨X6'l,X6'a,X6'b,-,-⟩:=X6'.facts2
  go_wp2_with fail
  refine (HO2.out _).mono ?_
  rintro e w4 ⟨rfl,hb4⟩
  have HB4:=Lib.hid (bT HB3.out hb4)
  have X6:=HX63.out.keep hb4
  clear hb4 X3 X3l X3a X3b X4 X4l X4a X4b X5 X5l X5a X5b X6' X6'l X6'a X6'b
  cases o2
  case true =>
   go_wp2_with fail
   go_ret
   exact ⟨ret_bool (by rw [← HRr.out];rfl),HB4.out⟩
  have X3:=HT.out.pa.keep HB4.out;have X5:=HT.out.pc.keep HB4.out
  try clear X3l
  try clear X3a
  try clear X3b
  obtain ⟨X3l,X3a,X3b,-,-⟩:=X3.facts2
  try clear X5l
  try clear X5a
  try clear X5b
  obtain ⟨X5l,X5a,X5b,-,-⟩:=X5.facts2
  try clear X6l
  try clear X6a
  try clear X6b
  obtain ⟨X6l,X6a,X6b,-,-⟩:=X6.facts2
  go_wp2_with fail
  refine (HO3.out _).mono ?_
  rintro e w5 ⟨rfl,hb5⟩
  have HB5:=Lib.hid (bT HB4.out hb5)
  clear hb5 X3 X3l X3a X3b X5 X5l X5a X5b X6 X6l X6a X6b
  go_wp2_with fail
  go_ret
  exact ⟨ret_bool (by rw [← HRr.out];simp),HB5.out⟩
 ·
  rw [if_neg ht] at hR
  obtain ⟨T,hT⟩:∃ T,sideS a b c=T:=⟨_,rfl⟩
  rw [hT] at hR ht b0 XT
  obtain ⟨P1,hP1⟩:∃ P,T*s1=P:=⟨_,rfl⟩
  obtain ⟨P2,hP2⟩:∃ P,T*s2=P:=⟨_,rfl⟩
  obtain ⟨P3,hP3⟩:∃ P,T*s3=P:=⟨_,rfl⟩
  rw [hP1,hP2,hP3] at hR
  have HRr:=Lib.hid hR
  have hTT:T=1∨T=-1:=by omega
  have kw1:IntKind.i64.wrap (T*s1)=P1:=by rw [hP1];exact IntWalk.i64_in _ (by rcases hTT with rfl | rfl<;>omega)
  have kw2:IntKind.i64.wrap (T*s2)=P2:=by rw [hP2];exact IntWalk.i64_in _ (by rcases hTT with rfl | rfl<;>omega)
  have kw3:IntKind.i64.wrap (T*s3)=P3:=by rw [hP3];exact IntWalk.i64_in _ (by rcases hTT with rfl | rfl<;>omega)
  have ht0:(T == 0)=false:=beq_eq_false_iff_ne.2 ht
  clear hR hT hP1 hP2 hP3 hTT b0 b1 b2 b3
  try clear X3l
  try clear X3a
  try clear X3b
  obtain ⟨X3l,X3a,X3b,-,-⟩:=X3.facts2
  try clear X4l
  try clear X4a
  try clear X4b
  obtain ⟨X4l,X4a,X4b,-,-⟩:=X4.facts2
  try clear X5l
  try clear X5a
  try clear X5b
  obtain ⟨X5l,X5a,X5b,-,-⟩:=X5.facts2
  try clear X6l
  try clear X6a
  try clear X6b
  obtain ⟨X6l,X6a,X6b,-,-⟩:=X6.facts2
  try clear XTl
  try clear XTa
  obtain ⟨XTl,XTa,-⟩:=XT.facts1
  go_upto_region 5 with fail
  by_cases c1:0≤P1
  case neg =>
   refine rg_start (Since w2) (.run 4 0 0 (.call 4 31 (.run 21 5 31 (.done)))) (by kernel_rfl) (bD (bR _)) (by kernel_rfl) (by kernel_rfl) (Nat.le_of_ble_eq_true (by kernel_rfl)) ?_
   intro opsR QR Hops HQrg hS
   iterate 4
    apply rg_p;exact Hops;exact rfl;exact hS;exact rfl
    · intro _ hqc;go_simp;try rfl
    try simp only [pu]
   refine rg_call (i:=4) (get_of Hops rfl) (fun K hK=>?_)
   have HSrg:=Lib.hid hS;clear hS
   refine rg_run (wanted_plain rfl) ?_
   go_simp
   refine (HS1.out _).mono ?_
   rintro e wr1 ⟨rfl,hbr1⟩
   have hS:Since w2 wr1:=bT (w:=w2) HSrg.out hbr1
   clear HSrg
   refine hK.out _ _ hS (fun _=>?_)
   clear hK K
   try simp only [pu]
   iterate 3
    apply rg_p;exact Hops;exact rfl;exact hS;exact rfl
    · intro _ hqc;go_simp;try rfl
    try simp only [pu]
   iterate 7
    refine rg_yn Hops rfl hS rfl rfl rfl rfl rfl ?_
    try simp only [pu]
   iterate 2
    apply rg_p;exact Hops;exact rfl;exact hS;exact rfl
    · intro _ hqc;go_simp;try rfl
    try simp only [pu]
   iterate 7
    refine rg_yn Hops rfl hS rfl rfl rfl rfl rfl ?_
    try simp only [pu]
   iterate 2
    apply rg_p;exact Hops;exact rfl;exact hS;exact rfl
    · intro _ hqc;go_simp;try rfl
    try simp only [pu]
   refine rg_done ?_
   refine HQrg.down _ _ ?_
   have hB:Below w2.heap.size w2 wr1:=hS
   clear hS HQrg Hops
   go_wp2_with fail
   go_ret
   exact ⟨ret_bool (by rw [← HRr.out];simp [c1]<;>omega),bT HB2.out hB⟩
  by_cases c2:0≤P2
  case neg =>
   refine rg_start (Since w2) (.run 4 0 0 (.call 4 31 (.run 7 5 31 (.call 12 8191 (.run 13 13 8191 (.done)))))) (by kernel_rfl) (bD (bR _)) (by kernel_rfl) (by kernel_rfl) (Nat.le_of_ble_eq_true (by kernel_rfl)) ?_
   intro opsR QR Hops HQrg hS
   iterate 4
    apply rg_p;exact Hops;exact rfl;exact hS;exact rfl
    · intro _ hqc;go_simp;try rfl
    try simp only [pu]
   refine rg_call (i:=4) (get_of Hops rfl) (fun K hK=>?_)
   have HSrg:=Lib.hid hS;clear hS
   refine rg_run (wanted_plain rfl) ?_
   go_simp
   refine (HS1.out _).mono ?_
   rintro e wr1 ⟨rfl,hbr1⟩
   have hS:Since w2 wr1:=bT (w:=w2) HSrg.out hbr1
   clear HSrg
   refine hK.out _ _ hS (fun _=>?_)
   clear hK K
   try simp only [pu]
   iterate 3
    apply rg_p;exact Hops;exact rfl;exact hS;exact rfl
    · intro _ hqc;go_simp;try rfl
    try simp only [pu]
   iterate 4
    apply rg_g;exact Hops;exact rfl;exact hS;iterate 4 exact rfl
    · intro _ hqc;go_simp;try rfl
    try simp only [pu]
   refine rg_call (i:=12) (get_of Hops rfl) (fun K hK=>?_)
   have HSrg:=Lib.hid hS;clear hS
   refine rg_run (wanted_yes rfl (get_of Hops rfl) rfl rfl) ?_
   go_simp
   refine (HS2.out _).mono ?_
   rintro e wr2 ⟨rfl,hbr2⟩
   have hS:Since w2 wr2:=bT (w:=w2) HSrg.out hbr2
   clear HSrg
   refine hK.out _ _ hS (fun _=>?_)
   clear hK K
   try simp only [pu]
   iterate 2
    apply rg_g;exact Hops;exact rfl;exact hS;iterate 4 exact rfl
    · intro _ hqc;go_simp;try rfl
    try simp only [pu]
   iterate 2
    apply rg_p;exact Hops;exact rfl;exact hS;exact rfl
    · intro _ hqc;go_simp;try rfl
    try simp only [pu]
   iterate 7
    refine rg_yn Hops rfl hS rfl rfl rfl rfl rfl ?_
    try simp only [pu]
   iterate 2
    apply rg_p;exact Hops;exact rfl;exact hS;exact rfl
    · intro _ hqc;go_simp;try rfl
    try simp only [pu]
   refine rg_done ?_
   refine HQrg.down _ _ ?_
   have hB:Below w2.heap.size w2 wr2:=hS
   clear hS HQrg Hops
   go_wp2_with fail
   go_ret
   exact ⟨ret_bool (by rw [← HRr.out];simp [c1,c2]<;>omega),bT HB2.out hB⟩
  refine rg_start (Since w2) (.run 4 0 0 (.call 4 31 (.run 7 5 31 (.call 12 8191 (.run 8 13 8191 (.call 21 4194303 (.run 4 22 4194303 (.done)))))))) (by kernel_rfl) (bD (bR _)) (by kernel_rfl) (by kernel_rfl) (Nat.le_of_ble_eq_true (by kernel_rfl)) ?_
  intro opsR QR Hops HQrg hS
  iterate 4
   apply rg_p;exact Hops;exact rfl;exact hS;exact rfl
   · intro _ hqc;go_simp;try rfl
   try simp only [pu]
  refine rg_call (i:=4) (get_of Hops rfl) (fun K hK=>?_)
  have HSrg:=Lib.hid hS;clear hS
  refine rg_run (wanted_plain rfl) ?_
  go_simp
  refine (HS1.out _).mono ?_
  rintro e wr1 ⟨rfl,hbr1⟩
  have hS:Since w2 wr1:=bT (w:=w2) HSrg.out hbr1
  clear HSrg
  refine hK.out _ _ hS (fun _=>?_)
  clear hK K
  try simp only [pu]
  iterate 3
   apply rg_p;exact Hops;exact rfl;exact hS;exact rfl
   · intro _ hqc;go_simp;try rfl
   try simp only [pu]
  iterate 4
   apply rg_g;exact Hops;exact rfl;exact hS;iterate 4 exact rfl
   · intro _ hqc;go_simp;try rfl
   try simp only [pu]
  refine rg_call (i:=12) (get_of Hops rfl) (fun K hK=>?_)
  have HSrg:=Lib.hid hS;clear hS
  refine rg_run (wanted_yes rfl (get_of Hops rfl) rfl rfl) ?_
  go_simp
  refine (HS2.out _).mono ?_
  rintro e wr2 ⟨rfl,hbr2⟩
  have hS:Since w2 wr2:=bT (w:=w2) HSrg.out hbr2
  clear HSrg
  refine hK.out _ _ hS (fun _=>?_)
  clear hK K
  try simp only [pu]
  iterate 2
   apply rg_g;exact Hops;exact rfl;exact hS;iterate 4 exact rfl
   · intro _ hqc;go_simp;try rfl
   try simp only [pu]
  iterate 2
   apply rg_p;exact Hops;exact rfl;exact hS;exact rfl
   · intro _ hqc;go_simp;try rfl
   try simp only [pu]
  iterate 4
   apply rg_g;exact Hops;exact rfl;exact hS;iterate 4 exact rfl
   · intro _ hqc;go_simp;try rfl
   try simp only [pu]
  refine rg_call (i:=21) (get_of Hops rfl) (fun K hK=>?_)
  have HSrg:=Lib.hid hS;clear hS
  refine rg_run (wanted_yes rfl (get_of Hops rfl) rfl rfl) ?_
  go_simp
  refine (HS3.out _).mono ?_
  rintro e wr3 ⟨rfl,hbr3⟩
  have hS:Since w2 wr3:=bT (w:=w2) HSrg.out hbr3
  clear HSrg
  refine hK.out _ _ hS (fun _=>?_)
  clear hK K
  try simp only [pu]
  iterate 2
   apply rg_g;exact Hops;exact rfl;exact hS;iterate 4 exact rfl
   · intro _ hqc;go_simp;try rfl
   try simp only [pu]
  iterate 2
   apply rg_p;exact Hops;exact rfl;exact hS;exact rfl
   · intro _ hqc;go_simp;try rfl
   try simp only [pu]
  refine rg_done ?_
  refine HQrg.down _ _ ?_
  have hB:Below w2.heap.size w2 wr3:=hS
  clear hS HQrg Hops
  go_wp2_with fail
  go_ret
  exact ⟨ret_bool (by rw [← HRr.out];simp [c1,c2]<;>omega),bT HB2.out hB⟩

set_option maxRecDepth 100000 in
set_option maxHeartbeats 4000000 in
theorem Triangle_spec (a b c:Pt) (w:World) :
  Calls Tryz.prog 50 #[ptV a,ptV b,ptV c] w fun e w'=>(∃ g7 g8 g3 g4 g5,e=.returned (.func (.func 71) #[] #[.pointer (some ⟨g7,0,none⟩),.pointer (some ⟨g8,0,none⟩),.pointer (some ⟨g3,0,none⟩),.pointer (some ⟨g4,0,none⟩),.pointer (some ⟨g5,0,none⟩)])∧TriI w' g7 g8 g3 g4 g5 a b c)∧Below w.heap.size w w':=by
 have HS:=Lib.hid (fun W=>Side_spec a b c W)
 unfold ptV at HS ⊢
 go_enter Tryz.func50,Tryz.ntmps50
 go_upto_region 2 with fail
 obtain ⟨B,hB⟩:∃ B,triBx a b c=B:=⟨_,rfl⟩
 obtain ⟨W1,hW⟩:∃ W:World,W=((((w.alloc (.cells #[.int .i64 a.x,.int .i64 a.y] 36)).alloc (.cells #[.int .i64 b.x,.int .i64 b.y] 36)).alloc (.cells #[.int .i64 c.x,.int .i64 c.y] 36)).alloc (.cells #[.int .i64 B.x0,.int .i64 B.y0,.int .i64 B.x1,.int .i64 B.y1] 113)):=⟨_,rfl⟩
 have m1:(if c.x<if b.x<a.x then b.x else a.x then c.x else if b.x<a.x then b.x else a.x)=B.x0:=by rw [← hB];show _=min (min a.x b.x) c.x;split<;>split<;>omega
 have m2:(if c.y<if b.y<a.y then b.y else a.y then c.y else if b.y<a.y then b.y else a.y)=B.y0:=by rw [← hB];show _=min (min a.y b.y) c.y;split<;>split<;>omega
 have m3:(if (if a.x<b.x then b.x else a.x)<c.x then c.x else if a.x<b.x then b.x else a.x)=B.x1:=by rw [← hB];show _=max (max a.x b.x) c.x;split<;>split<;>omega
 have m4:(if (if a.y<b.y then b.y else a.y)<c.y then c.y else if a.y<b.y then b.y else a.y)=B.y1:=by rw [← hB];show _=max (max a.y b.y) c.y;split<;>split<;>omega
 simp only [m1,m2,m3,m4]
 clear m1 m2 m3 m4
 rw [← hW]
 have X3:Blk W1 w.heap.size 36 #[.int .i64 a.x,.int .i64 a.y]:=by rw [hW];exact (((Blk.made rfl _ _).alloc _).alloc _).alloc _
 have X4:Blk W1 (w.heap.size+1) 36 #[.int .i64 b.x,.int .i64 b.y]:=by rw [hW];exact ((Blk.made (by simp) _ _).alloc _).alloc _
 have X5:Blk W1 (w.heap.size+2) 36 #[.int .i64 c.x,.int .i64 c.y]:=by rw [hW];exact (Blk.made (by simp) _ _).alloc _
 have X7:Blk W1 (w.heap.size+3) 113 #[.int .i64 B.x0,.int .i64 B.y0,.int .i64 B.x1,.int .i64 B.y1]:=by rw [hW];exact Blk.made (by simp) _ _
 have HB1:=Lib.hid (show Below w.heap.size w W1 by rw [hW];exact bA (bA (bA (bA (bR w) _) _) _) _)
 have HB:=Lib.hid hB
 clear hW hB
 have HX3:=Lib.hid X3;have HX4:=Lib.hid X4;have HX5:=Lib.hid X5;have HX7:=Lib.hid X7
 obtain ⟨X3l,X3a,X3b,-,-⟩:=X3.facts2
 obtain ⟨X4l,X4a,X4b,-,-⟩:=X4.facts2
 obtain ⟨X5l,X5a,X5b,-,-⟩:=X5.facts2
 go_wp2_with fail
 refine (HS.out _).mono ?_
 rintro e w2 ⟨rfl,hb2⟩
 have HB2:=Lib.hid hb2
 have hsz:=HB1.out.size
 clear hb2 X3 X3l X3a X3b X4 X4l X4a X4b X5 X5l X5a X5b
 go_wp2_with fail
 go_ret
 have hA:=bA HB2.out (.cells #[.int .i64 (sideS a b c)] 3)
 refine ⟨⟨_,_,_,_,_,rfl,⟨?_,Blk.made rfl _ _,HX3.out.keep hA,HX4.out.keep hA,HX5.out.keep hA⟩⟩,bT HB1.out hA⟩
 rw [HB.out]
 exact HX7.out.keep hA
end Go.Proofs.YtnhdmghgjngcaaaGreat
namespace Go.Proofs.YtnhdmghgjngcaaaGreat
open Go.RowKit

def blkS (a b c q:Pt):Bool:=decide (q≠a) && (decide (q≠b) && (decide (q≠c) && triS a b c q))
def paraS (p:Pl) (a:Ar):Bool:=p.arcs.any fun b=>decide (b.id≠a.id) && (decide (b.via.length=0) && (decide (b.fr=a.fr) && decide (b.dst=a.dst) || decide (b.fr=a.dst) && decide (b.dst=a.fr)))
def freeU (p:Pl) (a:Ar) (P:List Pt) (i:Nat):Bool :=
 ptOk (P.getD i pt0) && (ptOk (P.getD (i+1) pt0) && (ptOk (P.getD (i+2) pt0) && (!(decide (a.fr=a.dst) && decide (a.via.length<3)) && (!(decide (a.via.length=1) && paraS p a) &&
  (!(p.nodes.any fun n=>blkS (P.getD i pt0) (P.getD (i+1) pt0) (P.getD (i+2) pt0) n.pt) && !(p.arcs.any fun b=>b.via.any (blkS (P.getD i pt0) (P.getD (i+1) pt0) (P.getD (i+2) pt0))))))))
def freeI (p:Pl) (arc i:Int):Bool :=
 match findAr p.arcs arc with
 | none=>false
 | some a=>if i<0∨(a.via.length:Int)≤i then false else if hasEnds p a=true then freeU p a (pathS p a) i.toNat else false
structure Cd where
 id:Int
 k:Nat
 n:Int
def sizeS (P:List Pt) (k:Nat):Int:=let t:=twS (P.getD k pt0) (P.getD (k+1) pt0) (P.getD (k+2) pt0);if t<0 then -t else t
def cdU (p:Pl) (tol:Int) (a:Ar) (P:List Pt) (m:Nat):List Cd :=
 ((List.range m).filter fun k=>decide (sizeS P k<tol) && freeU p a P k).map fun k=>⟨a.id,k,sizeS P k⟩
def cdA (p:Pl) (tol:Int) (id:Int):List Cd :=
 match findAr p.arcs id with
 | none=>[]
 | some a=>if hasEnds p a=true then cdU p tol a (pathS p a) a.via.length else []
def upP (s:Option Cd) (c:Cd):Option Cd :=
 match s with
 | none=>some c
 | some b=>if (if c.n≠b.n then decide (c.n<b.n) else decide (c.id<b.id) || decide (c.id=b.id) && decide (c.k<b.k))=true then some c else some b
def upR (s:Option Cd) (c:Cd):Option Cd :=
 match s with
 | none=>some c
 | some b=>if c.n<b.n∨c.n=b.n∧c.id<b.id then some c else some b
theorem cdU_succ (p:Pl) (tol:Int) (a:Ar) (P:List Pt) (m:Nat):cdU p tol a P (m+1)=cdU p tol a P m++if (decide (sizeS P m<tol) && freeU p a P m)=true then [⟨a.id,m,sizeS P m⟩] else []:=by
 unfold cdU
 rw [List.range_succ,List.filter_append,List.map_append]
 congr 1
 simp only [List.filter_cons,List.filter_nil]
 split<;>rfl
theorem cdU_mem {p:Pl} {tol:Int} {a:Ar} {P:List Pt} {m:Nat} {c:Cd} (h:c∈cdU p tol a P m):c.id=a.id∧c.k<m∧c.n=sizeS P c.k∧c.n<tol∧freeU p a P c.k=true:=by
 unfold cdU at h
 obtain ⟨k,hk,rfl⟩:=List.mem_map.1 h
 rw [List.mem_filter,List.mem_range,Bool.and_eq_true,decide_eq_true_eq] at hk
 exact ⟨rfl,hk.1,rfl,hk.2.1,hk.2.2⟩
theorem cdA_id {p:Pl} {tol id:Int} {c:Cd} (h:c∈cdA p tol id):c.id=id:=by
 unfold cdA at h
 cases e:findAr p.arcs id with
 | none=>rw [e] at h;cases h
 | some a =>
  rw [e] at h
  simp only at h
  split at h
  ·
   have:=(cdU_mem h).1
   have hf:=List.find?_some e
   rw [this]
   simpa using hf
  · cases h
def lstF (p:Pl) (tol:Int) (st:List Int×Option Cd) (a:Ar):List Int×Option Cd:=if decide (a.id∈st.1)=true then st else (st.1++[a.id],(cdA p tol a.id).foldl upP st.2)
def leastR (p:Pl) (tol:Int) (l:List Ar) (s:Option Cd):Option Cd:=l.foldl (fun s a=>(cdA p tol a.id).foldl upR s) s
def leastS (p:Pl) (tol:Int):Option Cd:=(p.arcs.foldl (lstF p tol) ([],none)).2
def NoB (b c:Cd):Prop:=¬ (c.n<b.n∨c.n=b.n∧c.id<b.id)
theorem upR_facts (s:Option Cd) (c:Cd):∃ b,upR s c=some b∧NoB b c∧(∀ d,s=some d→NoB b d)∧(b=c∨s=some b):=by
 unfold upR NoB
 cases s with
 | none=>exact ⟨c,rfl,by omega,(fun d h=>by cases h),.inl rfl⟩
 | some b =>
  simp only
  split
  · exact ⟨c,rfl,by omega,(fun d h=>by injection h with h;subst h;omega),.inl rfl⟩
  ·
   rename_i h
   exact ⟨b,rfl,h,(fun d h=>by injection h with h;subst h;omega),.inr rfl⟩
theorem NoB.trans {a b c:Cd} (h1:NoB a b) (h2:NoB b c):NoB a c:=by unfold NoB at *;omega
theorem foldR_facts:∀ (l:List Cd) (s:Option Cd),(∀ d,s=some d→∃ b,l.foldl upR s=some b∧NoB b d)∧(∀ c∈l,∃ b,l.foldl upR s=some b∧NoB b c)∧(∀ b,l.foldl upR s=some b→b∈l∨s=some b)
 | [],s=>⟨fun d h=>⟨d,h,by unfold NoB;omega⟩,(fun c h=>by cases h),fun b h=>.inr h⟩
 | c::l,s=>by
  obtain ⟨b,e,n1,n2,ho⟩:=upR_facts s c
  obtain ⟨f1,f2,f3⟩:=foldR_facts l (upR s c)
  obtain ⟨z,ez,nz⟩:=f1 b e
  refine ⟨fun d hd=>⟨z,ez,nz.trans (n2 d hd)⟩,fun x hx=>?_,fun y hy=>?_⟩
  ·
   rcases List.mem_cons.1 hx with rfl | hx
   · exact ⟨z,ez,nz.trans n1⟩
   · exact f2 x hx
  ·
   rcases f3 y hy with h | h
   · exact .inl (List.mem_cons_of_mem _ h)
   ·
    rw [e] at h
    injection h with h
    subst h
    rcases ho with rfl | ho
    · exact .inl List.mem_cons_self
    · exact .inr ho
theorem foldR_keep:∀ (l:List Cd) (b:Cd),(∀ c∈l,NoB b c)→l.foldl upR (some b)=some b
 | [],_,_=>rfl
 | c::l,b,h=>by
  have e:upR (some b) c=some b:=by unfold upR;exact if_neg (h c List.mem_cons_self)
  rw [List.foldl_cons,e]
  exact foldR_keep l b fun x hx=>h x (List.mem_cons_of_mem _ hx)
theorem upP_eq {s:Option Cd} {c:Cd} (h:∀ b,s=some b→c.id=b.id→b.k≤c.k):upP s c=upR s c:=by
 unfold upP upR
 cases s with
 | none=>rfl
 | some b =>
  have:=h b rfl
  simp only
  by_cases e:c.n≠b.n
  ·
   rw [if_pos e]
   simp only [decide_eq_true_eq]
   by_cases g:c.n<b.n
   · rw [if_pos g,if_pos (.inl g)]
   · rw [if_neg g,if_neg (by omega)]
  ·
   rw [if_neg e]
   simp only [Bool.or_eq_true,Bool.and_eq_true,decide_eq_true_eq]
   by_cases g:c.id<b.id
   · rw [if_pos (.inl g),if_pos (by omega)]
   · rw [if_neg (by omega),if_neg (by omega)]
theorem foldP_U (p:Pl) (tol:Int) (a:Ar) (P:List Pt) (s:Option Cd) (hs:∀ b,s=some b→b.id≠a.id):∀ m,(cdU p tol a P m).foldl upP s=(cdU p tol a P m).foldl upR s
 | 0=>rfl
 | m+1=>by
  rw [cdU_succ,List.foldl_append,List.foldl_append,foldP_U p tol a P s hs m]
  split
  ·
   show upP _ _=upR _ _
   refine upP_eq fun b hb hid=>?_
   rcases (foldR_facts _ _).2.2 b hb with h | h
   ·
    have:=(cdU_mem h).2.1
    show b.k≤m
    omega
   · exact absurd hid.symm (hs b h)
  · rfl
theorem foldP_A (p:Pl) (tol id:Int) (s:Option Cd) (hs:∀ b,s=some b→b.id≠id):(cdA p tol id).foldl upP s=(cdA p tol id).foldl upR s:=by
 unfold cdA
 cases e:findAr p.arcs id with
 | none=>rfl
 | some a =>
  have hf:a.id=id:=by simpa using List.find?_some e
  simp only
  split
  · exact foldP_U p tol a _ s (by rw [hf];exact hs) _
  · rfl
theorem least_eq (p:Pl) (tol:Int):∀ (l:List Ar) (st:List Int×Option Cd),(∀ b,st.2=some b→b.id∈st.1)→(∀ id∈st.1,∀ c∈cdA p tol id,∃ b,st.2=some b∧NoB b c)→(l.foldl (lstF p tol) st).2=leastR p tol l st.2
 | [],_,_,_=>rfl
 | a::l,(seen,s),h1,h2=>by
  rw [List.foldl_cons]
  show _=leastR p tol l ((cdA p tol a.id).foldl upR s)
  simp only at h1 h2
  have hst:lstF p tol (seen,s) a=if decide (a.id∈seen)=true then (seen,s) else (seen++[a.id],(cdA p tol a.id).foldl upP s):=rfl
  rw [hst]
  by_cases e:a.id∈seen
  ·
   rw [if_pos (by simpa using e),least_eq p tol l (seen,s) h1 h2]
   congr 1
   symm
   have h3:=h2 _ e
   cases s with
   | none =>
    cases hc:cdA p tol a.id with
    | nil=>rfl
    | cons c t =>
     obtain ⟨b,hb,-⟩:=h3 c (by rw [hc];exact List.mem_cons_self)
     cases hb
   | some b =>
    refine foldR_keep _ _ fun c hc=>?_
    obtain ⟨b',hb,hn⟩:=h3 c hc
    injection hb with hb
    subst hb
    exact hn
  ·
   rw [if_neg (by simpa using e),foldP_A p tol a.id s (fun b hb hid=>e (hid ▸ h1 b hb))]
   obtain ⟨f1,f2,f3⟩:=foldR_facts (cdA p tol a.id) s
   refine least_eq p tol l _ (fun b hb=>?_) (fun id hid c hc=>?_)
   ·
    rcases f3 b hb with h | h
    · rw [cdA_id h];exact List.mem_append_right _ (List.mem_singleton.2 rfl)
    · exact List.mem_append_left _ (h1 b h)
   ·
    rcases List.mem_append.1 hid with hid | hid
    ·
     obtain ⟨b,hb,hn⟩:=h2 id hid c hc
     obtain ⟨z,hz,hz2⟩:=f1 b hb
     exact ⟨z,hz,hz2.trans hn⟩
    ·
     rw [List.mem_singleton] at hid
     subst hid
     exact f2 c hc
theorem leastS_eq (p:Pl) (tol:Int):leastS p tol=leastR p tol p.arcs none:=least_eq p tol p.arcs ([],none) (fun b h=>by cases h) (fun id h=>by cases h)
def dropL (arc:Int) (i:Nat):List Ar→List Ar
 | []=>[]
 | a::l=>if a.id=arc then ⟨a.id,a.fr,a.dst,a.via.eraseIdx i,a.left,a.right⟩::l else a::dropL arc i l
def dropV (p:Pl) (arc:Int) (i:Nat):Pl:=⟨p.nodes,dropL arc i p.arcs,p.faces⟩
def thinS (p:Pl) (tol:Int):Option Pl:=(leastS p tol).map fun c=>dropV p c.id c.k
def totV (l:List Ar):Nat:=(l.map (·.via.length)).sum
def simpU (tol:Int):Nat→Pl→Pl
 | 0,p=>p
 | n+1,p=>match thinS p tol with
  | none=>p
  | some q=>simpU tol n q
def simpS (p:Pl) (tol:Int):Pl:=simpU tol (totV p.arcs) p
theorem drop_tot {arc:Int} {i:Nat}:∀ {l:List Ar} {a:Ar},findAr l arc=some a→i<a.via.length→totV (dropL arc i l)+1=totV l
 | [],a,h,_=>by cases h
 | b::l,a,h,hi=>by
  unfold findAr at h
  rw [List.find?_cons] at h
  unfold dropL
  by_cases e:b.id=arc
  ·
   rw [show (b.id == arc)=true by simpa using e] at h
   injection h with h
   subst h
   rw [if_pos e]
   unfold totV
   simp only [List.map_cons,List.sum_cons,List.length_eraseIdx]
   rw [if_pos hi]
   omega
  ·
   rw [show (b.id == arc)=false by simpa using e] at h
   rw [if_neg e]
   have ih:=drop_tot (l:=l) h hi
   unfold totV at *
   simp only [List.map_cons,List.sum_cons]
   omega
theorem drop_len (arc:Int) (i:Nat):∀ l:List Ar,(dropL arc i l).length=l.length
 | []=>rfl
 | b::l=>by
  unfold dropL
  split
  · rfl
  · rw [List.length_cons,List.length_cons,drop_len arc i l]
theorem leastS_some {p:Pl} {tol:Int} {c:Cd} (h:leastS p tol=some c):∃ a,findAr p.arcs c.id=some a∧a.id=c.id∧hasEnds p a=true∧c.k<a.via.length∧c.n=sizeS (pathS p a) c.k∧c.n<tol∧freeU p a (pathS p a) c.k=true:=by
 rw [leastS_eq] at h
 unfold leastR at h
 have key:∀ (l:List Ar) (s:Option Cd),l.foldl (fun s a=>(cdA p tol a.id).foldl upR s) s=some c→s=some c∨∃ id,c∈cdA p tol id:=by
  intro l
  induction l with
  | nil=>exact fun s h=>.inl h
  | cons a l ih =>
   intro s h
   rw [List.foldl_cons] at h
   rcases ih _ h with e | e
   ·
    rcases (foldR_facts _ _).2.2 c e with g | g
    · exact .inr ⟨_,g⟩
    · exact .inl g
   · exact .inr e
 rcases key _ _ h with e | ⟨id,e⟩
 · cases e
 have hid:=cdA_id e
 unfold cdA at e
 cases hf:findAr p.arcs id with
 | none=>rw [hf] at e;cases e
 | some a =>
  rw [hf] at e
  simp only at e
  split at e
  ·
   rename_i he
   obtain ⟨h1,h2,h3,h4,h5⟩:=cdU_mem e
   exact ⟨a,by rw [hid,hf],h1.symm,he,h2,h3,h4,h5⟩
  · cases e
theorem thinS_tot {p q:Pl} {tol:Int} (h:thinS p tol=some q):totV q.arcs+1=totV p.arcs:=by
 unfold thinS at h
 cases e:leastS p tol with
 | none=>rw [e] at h;cases h
 | some c =>
  rw [e] at h
  injection h with h
  subst h
  obtain ⟨a,hf,-,-,hk,-⟩:=leastS_some e
  exact drop_tot hf hk
theorem simpS_next {p q:Pl} {tol:Int} (h:thinS p tol=some q):simpS p tol=simpS q tol:=by
 have ht:=thinS_tot h
 unfold simpS
 rw [← ht]
 generalize totV q.arcs=n
 unfold simpU
 rw [h]
 cases n<;>rfl
theorem simpS_stop {p:Pl} {tol:Int} (h:thinS p tol=none):simpS p tol=p:=by
 unfold simpS
 cases totV p.arcs with
 | zero=>rfl
 | succ n=>unfold simpU;rw [h]
end Go.Proofs.YtnhdmghgjngcaaaGreat
