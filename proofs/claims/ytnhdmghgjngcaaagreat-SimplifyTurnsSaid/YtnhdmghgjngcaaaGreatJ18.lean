import Derived.Test.YtnhdmghgjngcaaaGreatJ17
import Derived.Test.YtnhdmghgjngcaaaGreatJ01
import Derived.Test.YtnhdmghgjngcaaaGreatJ05
import Derived.Test.YtnhdmghgjngcaaaGreatGB
import Derived.Test.YtnhdmghgjngcaaaGreatJ02
set_option linter.unusedSimpArgs false
set_option linter.unusedVariables false
namespace Go.Proofs.YtnhdmghgjngcaaaGreat
open Go.RowKit

structure Ed where
 side:Int
 upright:Bool
 line:Int
 lo:Int
 hi:Int
def posS (g:Ed):Bool:=decide (g.side=1) || decide (g.side=2)
def acrossS (g:Ed) (p:Pt):Int:=if g.upright then p.x else p.y
end Go.Proofs.YtnhdmghgjngcaaaGreat
namespace Go.Proofs.YtnhdmghgjngcaaaGreat
open Go.RowKit

def offS (g:Ed) (p:Pt):Int:=if posS g then cmpI (acrossS g p) g.line else cmpI g.line (acrossS g p)
end Go.Proofs.YtnhdmghgjngcaaaGreat
namespace Go.Proofs.YtnhdmghgjngcaaaGreat
open Go.RowKit

set_option maxRecDepth 100000 in
set_option maxHeartbeats 2000000 in
theorem gIn_spec (b:Bx) (p:Pt) (w:World):Calls Tryz.prog 67 #[bxV b,ptV p] w fun e w'=>e=.returned (.bool (inB b p))∧Below w.heap.size w w':=by
 unfold bxV ptV
 obtain ⟨q,hq⟩:∃ q,inB b p=q:=⟨_,rfl⟩
 rw [hq]
 unfold inB at hq
 have Hq:=Lib.hid hq
 clear hq
 go_enter Tryz.func67,Tryz.ntmps67
 by_cases h1:b.x0≤p.x
 case neg =>
  go_wp2_with fail
  go_ret
  exact ⟨ret_bool (by rw [← Hq.out];exact (decide_eq_false (by omega)).symm),bA (bA (bR w) _) _⟩
 by_cases h2:p.x≤b.x1
 case neg =>
  go_wp2_with fail
  go_ret
  exact ⟨ret_bool (by rw [← Hq.out];exact (decide_eq_false (by omega)).symm),bA (bA (bR w) _) _⟩
 by_cases h3:b.y0≤p.y
 case neg =>
  go_wp2_with fail
  go_ret
  exact ⟨ret_bool (by rw [← Hq.out];exact (decide_eq_false (by omega)).symm),bA (bA (bR w) _) _⟩
 by_cases h4:p.y≤b.y1
 case neg =>
  go_wp2_with fail
  go_ret
  exact ⟨ret_bool (by rw [← Hq.out];exact (decide_eq_false (by omega)).symm),bA (bA (bR w) _) _⟩
 go_wp2_with fail
 go_ret
 exact ⟨ret_bool (by rw [← Hq.out];exact (decide_eq_true (by omega)).symm),bA (bA (bR w) _) _⟩
end Go.Proofs.YtnhdmghgjngcaaaGreat
namespace Go.Proofs.YtnhdmghgjngcaaaGreat
open Go.RowKit

set_option maxHeartbeats 400000 in
theorem SValid_spec (q:Pt) (w:World):Calls Tryz.prog 48 #[ptV q] w fun e w'=>e=.returned (.bool (ptOk q))∧Below w.heap.size w w':=by
 have HI:=Lib.hid (fun W=>gIn_spec ⟨-1048576,-1048576,1048576,1048576⟩ q W)
 have he:=Lib.hid (show inB ⟨-1048576,-1048576,1048576,1048576⟩ q=ptOk q from by
  unfold inB ptOk
  rw [Bool.eq_iff_iff]
  simp only [Bool.and_eq_true,decide_eq_true_eq,and_assoc])
 unfold bxV ptV at HI
 unfold ptV
 go_enter Tryz.func48,Tryz.ntmps48
 go_wp2_with fail
 refine (HI.out _).mono ?_
 rintro e w1 ⟨rfl,hb1⟩
 have HB1:=Lib.hid (bT (bA (bR w) _) hb1)
 clear hb1
 go_wp2_with fail
 go_ret
 exact ⟨ret_bool he.out,HB1.out⟩

structure TriI (W:World) (g7 g8 g3 g4 g5:Nat) (a b c:Pt):Prop where
 bx:Blk W g7 113 #[.int .i64 (triBx a b c).x0,.int .i64 (triBx a b c).y0,.int .i64 (triBx a b c).x1,.int .i64 (triBx a b c).y1]
 tn:Blk W g8 3 #[.int .i64 (sideS a b c)]
 pa:Blk W g3 36 #[.int .i64 a.x,.int .i64 a.y]
 pb:Blk W g4 36 #[.int .i64 b.x,.int .i64 b.y]
 pc:Blk W g5 36 #[.int .i64 c.x,.int .i64 c.y]
theorem TriI.keep {W W':World} {g7 g8 g3 g4 g5:Nat} {a b c:Pt} (h:TriI W g7 g8 g3 g4 g5 a b c) (hb:Below W.heap.size W W'):TriI W' g7 g8 g3 g4 g5 a b c :=
 ⟨h.bx.keep hb,h.tn.keep hb,h.pa.keep hb,h.pb.keep hb,h.pc.keep hb⟩

set_option maxRecDepth 100000 in
set_option maxHeartbeats 4000000 in
theorem tri1_spec (a b c q:Pt) (g7 g8 g3 g4 g5:Nat) (w:World) (h:TriI w g7 g8 g3 g4 g5 a b c) :
  Calls Tryz.prog 71 #[ptV q,.pointer (some ⟨g7,0,none⟩),.pointer (some ⟨g8,0,none⟩),.pointer (some ⟨g3,0,none⟩),.pointer (some ⟨g4,0,none⟩),.pointer (some ⟨g5,0,none⟩)] w fun e w'=>e=.returned (.bool (triS a b c q))∧Below w.heap.size w w':=by
 have HI:=Lib.hid (fun W=>gIn_spec (triBx a b c) q W)
 have HO1:=Lib.hid (fun W=>On_spec a b q W);have HO2:=Lib.hid (fun W=>On_spec b c q W);have HO3:=Lib.hid (fun W=>On_spec c a q W)
 have HS1:=Lib.hid (fun W=>Side_spec a b q W);have HS2:=Lib.hid (fun W=>Side_spec b c q W);have HS3:=Lib.hid (fun W=>Side_spec c a q W)
 have b0:=side3 a b c;have b1:=side3 a b q;have b2:=side3 b c q;have b3:=side3 c a q
 have HT:=Lib.hid h
 obtain ⟨R,hR⟩:∃ R,triS a b c q=R:=⟨_,rfl⟩
 rw [hR]
 unfold triS at hR
 have HT1:=h
 obtain ⟨hbx,htn,hpa,hpb,hpc⟩:=HT1
 have HBx:=Lib.hid hbx;have HTn:=Lib.hid htn
 clear h hbx htn hpa hpb hpc
 unfold bxV ptV at HI
 unfold ptV at HO1 HO2 HO3 HS1 HS2 HS3 ⊢
 generalize inB (triBx a b c) q=z0 at *
 generalize onS a b q=o1 at *
 generalize onS b c q=o2 at *
 generalize onS c a q=o3 at *
 generalize sideS a b q=s1 at *
 generalize sideS b c q=s2 at *
 generalize sideS c a q=s3 at *
 have HRr:=Lib.hid hR
 clear hR
 go_enter Tryz.func71,Tryz.ntmps71
 go_upto_region 1 with fail
 obtain ⟨W1,hW⟩:∃ W:World,W=w.alloc (.cells #[.int .i64 q.x,.int .i64 q.y] 36):=⟨_,rfl⟩
 have X6:Blk W1 w.heap.size 36 #[.int .i64 q.x,.int .i64 q.y]:=by rw [hW];exact Blk.made rfl _ _
 have HB1:=Lib.hid (show Below w.heap.size w W1 by rw [hW];exact bA (bR w) _)
 rw [← hW]
 clear hW
 have HX6:=Lib.hid X6
 have XB:=HBx.out.keep HB1.out
 obtain ⟨X6l,X6a,X6b,-,-⟩:=X6.facts2
 obtain ⟨XBl,XBa,XBb,XBc,XBd,-,-,-,-⟩:=XB.facts4
 go_wp2_with fail
 refine (HI.out _).mono ?_
 rintro e w2 ⟨rfl,hb2⟩
 have HB2:=Lib.hid (bT HB1.out hb2)
 have HX62:=Lib.hid (HX6.out.keep hb2)
 clear hb2 X6 X6l X6a X6b XB XBl XBa XBb XBc XBd HX6 HB1
 cases z0
 case false =>
  go_wp2_with fail
  go_ret
  exact ⟨ret_bool (by rw [← HRr.out];rfl),HB2.out⟩
 have hR:=HRr.out
 rw [Bool.true_and] at hR
 clear HRr
 have XT:=HTn.out.keep HB2.out
 have X3:=HT.out.pa.keep HB2.out;have X4:=HT.out.pb.keep HB2.out;have X5:=HT.out.pc.keep HB2.out;have X6:=HX62.out
 by_cases ht:sideS a b c=0
 ·
  rw [if_pos ht] at hR
  have HRr:=Lib.hid hR
  rw [ht] at XT
  clear hR ht
  obtain ⟨X3l,X3a,X3b,-,-⟩:=X3.facts2
  obtain ⟨X4l,X4a,X4b,-,-⟩:=X4.facts2
  obtain ⟨X5l,X5a,X5b,-,-⟩:=X5.facts2
  try clear X6l
  try clear X6a
  try clear X6b
  obtain ⟨X6l,X6a,X6b,-,-⟩:=X6.facts2
  obtain ⟨XTl,XTa,-⟩:=XT.facts1
  go_wp2_with fail
  refine (HO1.out _).mono ?_
  rintro e w3 ⟨rfl,hb3⟩
  have HB3:=Lib.hid (bT HB2.out hb3)
  have X6':=HX62.out.keep hb3
  clear hb3 X3 X3l X3a X3b X4 X4l X4a X4b X5 X5l X5a X5b X6 X6l X6a X6b XT XTl XTa
  cases o1
  case true =>
   go_wp2_with fail
   go_ret
   exact ⟨ret_bool (by rw [← HRr.out];rfl),HB3.out⟩
  have X3:=HT.out.pa.keep HB3.out;have X4:=HT.out.pb.keep HB3.out;have X5:=HT.out.pc.keep HB3.out
  have HX63:=Lib.hid X6'
  try clear X3l
  try clear X3a
  try clear X3b
  obtain ⟨X3l,X3a,X3b,-,-⟩:=X3.facts2
  try clear X4l
  try clear X4a
  try clear X4b
  obtain ⟨X4l,X4a,X4b,-,-⟩:=X4.facts2
  try clear X5l
  try clear X5a
  try clear X5b
  obtain ⟨X5l,X5a,X5b,-,-⟩:=X5.facts2
  try clear X6'l
  try clear X6'a
  try clear X6'b
  try clear X6'fa
  try clear X6'fb
  obtain ⟨X6'l,X6'a,X6'b,-,-⟩:=X6'.facts2
  go_wp2_with fail
  refine (HO2.out _).mono ?_
  rintro e w4 ⟨rfl,hb4⟩
  have HB4:=Lib.hid (bT HB3.out hb4)
  have X6:=HX63.out.keep hb4
  clear hb4 X3 X3l X3a X3b X4 X4l X4a X4b X5 X5l X5a X5b X6' X6'l X6'a X6'b
  cases o2
  case true =>
   go_wp2_with fail
   go_ret
   exact ⟨ret_bool (by rw [← HRr.out];rfl),HB4.out⟩
  have X3:=HT.out.pa.keep HB4.out;have X5:=HT.out.pc.keep HB4.out
  try clear X3l
  try clear X3a
  try clear X3b
  obtain ⟨X3l,X3a,X3b,-,-⟩:=X3.facts2
  try clear X5l
  try clear X5a
  try clear X5b
  obtain ⟨X5l,X5a,X5b,-,-⟩:=X5.facts2
  try clear X6l
  try clear X6a
  try clear X6b
  obtain ⟨X6l,X6a,X6b,-,-⟩:=X6.facts2
  go_wp2_with fail
  refine (HO3.out _).mono ?_
  rintro e w5 ⟨rfl,hb5⟩
  have HB5:=Lib.hid (bT HB4.out hb5)
  clear hb5 X3 X3l X3a X3b X5 X5l X5a X5b X6 X6l X6a X6b
  go_wp2_with fail
  go_ret
  exact ⟨ret_bool (by rw [← HRr.out];simp),HB5.out⟩
 ·
  rw [if_neg ht] at hR
  obtain ⟨T,hT⟩:∃ T,sideS a b c=T:=⟨_,rfl⟩
  rw [hT] at hR ht b0 XT
  obtain ⟨P1,hP1⟩:∃ P,T*s1=P:=⟨_,rfl⟩
  obtain ⟨P2,hP2⟩:∃ P,T*s2=P:=⟨_,rfl⟩
  obtain ⟨P3,hP3⟩:∃ P,T*s3=P:=⟨_,rfl⟩
  rw [hP1,hP2,hP3] at hR
  have HRr:=Lib.hid hR
  have hTT:T=1∨T=-1:=by omega
  have kw1:IntKind.i64.wrap (T*s1)=P1:=by rw [hP1];exact IntWalk.i64_in _ (by rcases hTT with rfl | rfl<;>omega)
  have kw2:IntKind.i64.wrap (T*s2)=P2:=by rw [hP2];exact IntWalk.i64_in _ (by rcases hTT with rfl | rfl<;>omega)
  have kw3:IntKind.i64.wrap (T*s3)=P3:=by rw [hP3];exact IntWalk.i64_in _ (by rcases hTT with rfl | rfl<;>omega)
  have ht0:(T == 0)=false:=beq_eq_false_iff_ne.2 ht
  clear hR hT hP1 hP2 hP3 hTT b0 b1 b2 b3
  try clear X3l
  try clear X3a
  try clear X3b
  obtain ⟨X3l,X3a,X3b,-,-⟩:=X3.facts2
  try clear X4l
  try clear X4a
  try clear X4b
  obtain ⟨X4l,X4a,X4b,-,-⟩:=X4.facts2
  try clear X5l
  try clear X5a
  try clear X5b
  obtain ⟨X5l,X5a,X5b,-,-⟩:=X5.facts2
  try clear X6l
  try clear X6a
  try clear X6b
  obtain ⟨X6l,X6a,X6b,-,-⟩:=X6.facts2
  try clear XTl
  try clear XTa
  obtain ⟨XTl,XTa,-⟩:=XT.facts1
  go_upto_region 5 with fail
  by_cases c1:0≤P1
  case neg =>
   refine rg_start (Since w2) (.run 4 0 0 (.call 4 31 (.run 21 5 31 (.done)))) (by kernel_rfl) (bD (bR _)) (by kernel_rfl) (by kernel_rfl) (Nat.le_of_ble_eq_true (by kernel_rfl)) ?_
   intro opsR QR Hops HQrg hS
   iterate 4
    apply rg_p;exact Hops;exact rfl;exact hS;exact rfl
    · intro _ hqc;go_simp;try rfl
    try simp only [pu]
   refine rg_call (i:=4) (get_of Hops rfl) (fun K hK=>?_)
   have HSrg:=Lib.hid hS;clear hS
   refine rg_run (wanted_plain rfl) ?_
   go_simp
   refine (HS1.out _).mono ?_
   rintro e wr1 ⟨rfl,hbr1⟩
   have hS:Since w2 wr1:=bT (w:=w2) HSrg.out hbr1
   clear HSrg
   refine hK.out _ _ hS (fun _=>?_)
   clear hK K
   try simp only [pu]
   iterate 3
    apply rg_p;exact Hops;exact rfl;exact hS;exact rfl
    · intro _ hqc;go_simp;try rfl
    try simp only [pu]
   iterate 7
    refine rg_yn Hops rfl hS rfl rfl rfl rfl rfl ?_
    try simp only [pu]
   iterate 2
    apply rg_p;exact Hops;exact rfl;exact hS;exact rfl
    · intro _ hqc;go_simp;try rfl
    try simp only [pu]
   iterate 7
    refine rg_yn Hops rfl hS rfl rfl rfl rfl rfl ?_
    try simp only [pu]
   iterate 2
    apply rg_p;exact Hops;exact rfl;exact hS;exact rfl
    · intro _ hqc;go_simp;try rfl
    try simp only [pu]
   refine rg_done ?_
   refine HQrg.down _ _ ?_
   have hB:Below w2.heap.size w2 wr1:=hS
   clear hS HQrg Hops
   go_wp2_with fail
   go_ret
   exact ⟨ret_bool (by rw [← HRr.out];simp [c1]<;>omega),bT HB2.out hB⟩
  by_cases c2:0≤P2
  case neg =>
   refine rg_start (Since w2) (.run 4 0 0 (.call 4 31 (.run 7 5 31 (.call 12 8191 (.run 13 13 8191 (.done)))))) (by kernel_rfl) (bD (bR _)) (by kernel_rfl) (by kernel_rfl) (Nat.le_of_ble_eq_true (by kernel_rfl)) ?_
   intro opsR QR Hops HQrg hS
   iterate 4
    apply rg_p;exact Hops;exact rfl;exact hS;exact rfl
    · intro _ hqc;go_simp;try rfl
    try simp only [pu]
   refine rg_call (i:=4) (get_of Hops rfl) (fun K hK=>?_)
   have HSrg:=Lib.hid hS;clear hS
   refine rg_run (wanted_plain rfl) ?_
   go_simp
   refine (HS1.out _).mono ?_
   rintro e wr1 ⟨rfl,hbr1⟩
   have hS:Since w2 wr1:=bT (w:=w2) HSrg.out hbr1
   clear HSrg
   refine hK.out _ _ hS (fun _=>?_)
   clear hK K
   try simp only [pu]
   iterate 3
    apply rg_p;exact Hops;exact rfl;exact hS;exact rfl
    · intro _ hqc;go_simp;try rfl
    try simp only [pu]
   iterate 4
    apply rg_g;exact Hops;exact rfl;exact hS;iterate 4 exact rfl
    · intro _ hqc;go_simp;try rfl
    try simp only [pu]
   refine rg_call (i:=12) (get_of Hops rfl) (fun K hK=>?_)
   have HSrg:=Lib.hid hS;clear hS
   refine rg_run (wanted_yes rfl (get_of Hops rfl) rfl rfl) ?_
   go_simp
   refine (HS2.out _).mono ?_
   rintro e wr2 ⟨rfl,hbr2⟩
   have hS:Since w2 wr2:=bT (w:=w2) HSrg.out hbr2
   clear HSrg
   refine hK.out _ _ hS (fun _=>?_)
   clear hK K
   try simp only [pu]
   iterate 2
    apply rg_g;exact Hops;exact rfl;exact hS;iterate 4 exact rfl
    · intro _ hqc;go_simp;try rfl
    try simp only [pu]
   iterate 2
    apply rg_p;exact Hops;exact rfl;exact hS;exact rfl
    · intro _ hqc;go_simp;try rfl
    try simp only [pu]
   iterate 7
    refine rg_yn Hops rfl hS rfl rfl rfl rfl rfl ?_
    try simp only [pu]
   iterate 2
    apply rg_p;exact Hops;exact rfl;exact hS;exact rfl
    · intro _ hqc;go_simp;try rfl
    try simp only [pu]
   refine rg_done ?_
   refine HQrg.down _ _ ?_
   have hB:Below w2.heap.size w2 wr2:=hS
   clear hS HQrg Hops
   go_wp2_with fail
   go_ret
   exact ⟨ret_bool (by rw [← HRr.out];simp [c1,c2]<;>omega),bT HB2.out hB⟩
  refine rg_start (Since w2) (.run 4 0 0 (.call 4 31 (.run 7 5 31 (.call 12 8191 (.run 8 13 8191 (.call 21 4194303 (.run 4 22 4194303 (.done)))))))) (by kernel_rfl) (bD (bR _)) (by kernel_rfl) (by kernel_rfl) (Nat.le_of_ble_eq_true (by kernel_rfl)) ?_
  intro opsR QR Hops HQrg hS
  iterate 4
   apply rg_p;exact Hops;exact rfl;exact hS;exact rfl
   · intro _ hqc;go_simp;try rfl
   try simp only [pu]
  refine rg_call (i:=4) (get_of Hops rfl) (fun K hK=>?_)
  have HSrg:=Lib.hid hS;clear hS
  refine rg_run (wanted_plain rfl) ?_
  go_simp
  refine (HS1.out _).mono ?_
  rintro e wr1 ⟨rfl,hbr1⟩
  have hS:Since w2 wr1:=bT (w:=w2) HSrg.out hbr1
  clear HSrg
  refine hK.out _ _ hS (fun _=>?_)
  clear hK K
  try simp only [pu]
  iterate 3
   apply rg_p;exact Hops;exact rfl;exact hS;exact rfl
   · intro _ hqc;go_simp;try rfl
   try simp only [pu]
  iterate 4
   apply rg_g;exact Hops;exact rfl;exact hS;iterate 4 exact rfl
   · intro _ hqc;go_simp;try rfl
   try simp only [pu]
  refine rg_call (i:=12) (get_of Hops rfl) (fun K hK=>?_)
  have HSrg:=Lib.hid hS;clear hS
  refine rg_run (wanted_yes rfl (get_of Hops rfl) rfl rfl) ?_
  go_simp
  refine (HS2.out _).mono ?_
  rintro e wr2 ⟨rfl,hbr2⟩
  have hS:Since w2 wr2:=bT (w:=w2) HSrg.out hbr2
  clear HSrg
  refine hK.out _ _ hS (fun _=>?_)
  clear hK K
  try simp only [pu]
  iterate 2
   apply rg_g;exact Hops;exact rfl;exact hS;iterate 4 exact rfl
   · intro _ hqc;go_simp;try rfl
   try simp only [pu]
  iterate 2
   apply rg_p;exact Hops;exact rfl;exact hS;exact rfl
   · intro _ hqc;go_simp;try rfl
   try simp only [pu]
  iterate 4
   apply rg_g;exact Hops;exact rfl;exact hS;iterate 4 exact rfl
   · intro _ hqc;go_simp;try rfl
   try simp only [pu]
  refine rg_call (i:=21) (get_of Hops rfl) (fun K hK=>?_)
  have HSrg:=Lib.hid hS;clear hS
  refine rg_run (wanted_yes rfl (get_of Hops rfl) rfl rfl) ?_
  go_simp
  refine (HS3.out _).mono ?_
  rintro e wr3 ⟨rfl,hbr3⟩
  have hS:Since w2 wr3:=bT (w:=w2) HSrg.out hbr3
  clear HSrg
  refine hK.out _ _ hS (fun _=>?_)
  clear hK K
  try simp only [pu]
  iterate 2
   apply rg_g;exact Hops;exact rfl;exact hS;iterate 4 exact rfl
   · intro _ hqc;go_simp;try rfl
   try simp only [pu]
  iterate 2
   apply rg_p;exact Hops;exact rfl;exact hS;exact rfl
   · intro _ hqc;go_simp;try rfl
   try simp only [pu]
  refine rg_done ?_
  refine HQrg.down _ _ ?_
  have hB:Below w2.heap.size w2 wr3:=hS
  clear hS HQrg Hops
  go_wp2_with fail
  go_ret
  exact ⟨ret_bool (by rw [← HRr.out];simp [c1,c2]<;>omega),bT HB2.out hB⟩

set_option maxRecDepth 100000 in
set_option maxHeartbeats 4000000 in
theorem Triangle_spec (a b c:Pt) (w:World) :
  Calls Tryz.prog 50 #[ptV a,ptV b,ptV c] w fun e w'=>(∃ g7 g8 g3 g4 g5,e=.returned (.func (.func 71) #[] #[.pointer (some ⟨g7,0,none⟩),.pointer (some ⟨g8,0,none⟩),.pointer (some ⟨g3,0,none⟩),.pointer (some ⟨g4,0,none⟩),.pointer (some ⟨g5,0,none⟩)])∧TriI w' g7 g8 g3 g4 g5 a b c)∧Below w.heap.size w w':=by
 have HS:=Lib.hid (fun W=>Side_spec a b c W)
 unfold ptV at HS ⊢
 go_enter Tryz.func50,Tryz.ntmps50
 go_upto_region 2 with fail
 obtain ⟨B,hB⟩:∃ B,triBx a b c=B:=⟨_,rfl⟩
 obtain ⟨W1,hW⟩:∃ W:World,W=((((w.alloc (.cells #[.int .i64 a.x,.int .i64 a.y] 36)).alloc (.cells #[.int .i64 b.x,.int .i64 b.y] 36)).alloc (.cells #[.int .i64 c.x,.int .i64 c.y] 36)).alloc (.cells #[.int .i64 B.x0,.int .i64 B.y0,.int .i64 B.x1,.int .i64 B.y1] 113)):=⟨_,rfl⟩
 have m1:(if c.x<if b.x<a.x then b.x else a.x then c.x else if b.x<a.x then b.x else a.x)=B.x0:=by rw [← hB];show _=min (min a.x b.x) c.x;split<;>split<;>omega
 have m2:(if c.y<if b.y<a.y then b.y else a.y then c.y else if b.y<a.y then b.y else a.y)=B.y0:=by rw [← hB];show _=min (min a.y b.y) c.y;split<;>split<;>omega
 have m3:(if (if a.x<b.x then b.x else a.x)<c.x then c.x else if a.x<b.x then b.x else a.x)=B.x1:=by rw [← hB];show _=max (max a.x b.x) c.x;split<;>split<;>omega
 have m4:(if (if a.y<b.y then b.y else a.y)<c.y then c.y else if a.y<b.y then b.y else a.y)=B.y1:=by rw [← hB];show _=max (max a.y b.y) c.y;split<;>split<;>omega
 simp only [m1,m2,m3,m4]
 clear m1 m2 m3 m4
 rw [← hW]
 have X3:Blk W1 w.heap.size 36 #[.int .i64 a.x,.int .i64 a.y]:=by rw [hW];exact (((Blk.made rfl _ _).alloc _).alloc _).alloc _
 have X4:Blk W1 (w.heap.size+1) 36 #[.int .i64 b.x,.int .i64 b.y]:=by rw [hW];exact ((Blk.made (by simp) _ _).alloc _).alloc _
 have X5:Blk W1 (w.heap.size+2) 36 #[.int .i64 c.x,.int .i64 c.y]:=by rw [hW];exact (Blk.made (by simp) _ _).alloc _
 have X7:Blk W1 (w.heap.size+3) 113 #[.int .i64 B.x0,.int .i64 B.y0,.int .i64 B.x1,.int .i64 B.y1]:=by rw [hW];exact Blk.made (by simp) _ _
 have HB1:=Lib.hid (show Below w.heap.size w W1 by rw [hW];exact bA (bA (bA (bA (bR w) _) _) _) _)
 have HB:=Lib.hid hB
 clear hW hB
 have HX3:=Lib.hid X3;have HX4:=Lib.hid X4;have HX5:=Lib.hid X5;have HX7:=Lib.hid X7
 obtain ⟨X3l,X3a,X3b,-,-⟩:=X3.facts2
 obtain ⟨X4l,X4a,X4b,-,-⟩:=X4.facts2
 obtain ⟨X5l,X5a,X5b,-,-⟩:=X5.facts2
 go_wp2_with fail
 refine (HS.out _).mono ?_
 rintro e w2 ⟨rfl,hb2⟩
 have HB2:=Lib.hid hb2
 have hsz:=HB1.out.size
 clear hb2 X3 X3l X3a X3b X4 X4l X4a X4b X5 X5l X5a X5b
 go_wp2_with fail
 go_ret
 have hA:=bA HB2.out (.cells #[.int .i64 (sideS a b c)] 3)
 refine ⟨⟨_,_,_,_,_,rfl,⟨?_,Blk.made rfl _ _,HX3.out.keep hA,HX4.out.keep hA,HX5.out.keep hA⟩⟩,bT HB1.out hA⟩
 rw [HB.out]
 exact HX7.out.keep hA
end Go.Proofs.YtnhdmghgjngcaaaGreat
