import Derived.Test.YtpempeioeiaijaaGreatJ26
import Derived.Test.YtpempeioeiaijaaGreatJ21
import Derived.ProofKit
import Derived.Test.YtpempeioeiaijaaGreatProg
import Derived.Test.YtpempeioeiaijaaGreatChecked
import Derived.Deep.Slices
import Derived.Maps.Own
import Derived.Maps.Views
import Derived.DeepKeys4
import Derived.Test.YtpempeioeiaijaaGreatJ20
import Derived.Maps.OwnSet
import Derived.Maps.RangeWalk
import Derived.WideKeyEntry
import Derived.ChangeKeysEq
import Derived.Test.YtpempeioeiaijaaGreatJ04
import Derived.Test.YtpempeioeiaijaaGreatJ15
import Derived.Test.YtpempeioeiaijaaGreatLaySortPt
import Derived.Test.YtpempeioeiaijaaGreatJ25
import Derived.Test.YtpempeioeiaijaaGreatJ05
set_option linter.unusedSimpArgs false
set_option linter.unusedVariables false
namespace Go.Proofs.YtpempeioeiaijaaGreat
open Go.RowKit Go.Sort

theorem withP_at {p:Pt} {l:List Pt} {k:Nat} (h:∀ j (hj:j<l.length),j<k→bef l[j] p=true) (he:k=l.length∨∃ hk:k<l.length,bef l[k] p=false∧l[k]≠p):withP p l=l.take k++p::l.drop k:=by
 induction l generalizing k with
 | nil =>
  rcases he with rfl | ⟨hk,-⟩
  · rfl
  · exact absurd hk (by simp)
 | cons a l ih =>
  cases k with
  | zero =>
   rcases he with he | ⟨hk,h1,h2⟩
   · simp at he
   ·
    simp only [List.getElem_cons_zero] at h1 h2
    simp [withP,h1,h2]
  | succ k =>
   have ha:bef a p=true:=h 0 (by simp) (by omega)
   rw [withP,if_pos ha,ih (k:=k) (fun j hj hjk=>h (j+1) (by simpa using hj) (by omega)) (by
    rcases he with he | ⟨hk,h1,h2⟩
    · left;simpa using he
    · right;exact ⟨by simpa using hk,by simpa using h1,by simpa using h2⟩)]
   simp
theorem withP_in {p:Pt} {l:List Pt} {k:Nat} (hk:k<l.length) (h:∀ j (hj:j<l.length),j<k→bef l[j] p=true) (he:l[k]=p):withP p l=l:=by
 induction l generalizing k with
 | nil=>exact absurd hk (by simp)
 | cons a l ih =>
  cases k with
  | zero =>
   simp only [List.getElem_cons_zero] at he
   subst he
   simp [withP,bef_irr]
  | succ k =>
   have ha:bef a p=true:=h 0 (by simp) (by omega)
   rw [withP,if_pos ha,ih (k:=k) (by simpa using hk) (fun j hj hjk=>h (j+1) (by simpa using hj) (by omega)) (by simpa using he)]
theorem withP_len (p:Pt):∀ l:List Pt,(withP p l).length≤l.length+1
 | []=>by simp [withP]
 | y::l=>by
  unfold withP
  have:=withP_len p l
  split
  · simp only [List.length_cons];omega
  · split<;>simp only [List.length_cons]<;>omega
def RetPtR (w:World) (l:List Pt) (e:Ending) (w':World):Prop :=
 ∃ A c,e=.returned (.slice A l.length c)∧Below w.heap.size w w'∧Pts w' (.slice A l.length c) l

set_option maxRecDepth 100000 in
set_option maxHeartbeats 8000000 in
theorem RWith19_spec (v:Value) (l:List Pt) (p:Pt) (w:World) (h:Pts w v l) (hl:l.length≤2000000) :
  Calls Tryz.prog 30 #[v,.agg #[.int .i64 p.x,.int .i64 p.y]] w (RetPtR w (withP p l)):=by
 have HBe:=Lib.hid (fun a W=>Bef19_spec a p W)
 obtain ⟨A,c,rfl,hn,hc,hR⟩:=h
 have HC:=Lib.hid (show Pts w (.slice A l.length c) l from ⟨A,c,rfl,hn,hc,hR⟩)
 unfold maxLen at hc
 have HR:=Lib.hid hR;clear hR
 obtain ⟨q,hq⟩:∃ q,withP p l=q:=⟨_,rfl⟩
 rw [hq]
 have Hq:=Lib.hid hq
 clear hq
 go_enter Tryz.func30,Tryz.ntmps30
 go_upto_block 0 with fail
 obtain ⟨W1,hW⟩:∃ W1:World,W1=w.alloc (.cells #[.int .i64 p.x,.int .i64 p.y] 42):=⟨_,rfl⟩
 have HX1:=Lib.hid (show Blk W1 w.heap.size 42 #[.int .i64 p.x,.int .i64 p.y] by rw [hW];exact Blk.made rfl _ _)
 have HB1:=Lib.hid (show Below w.heap.size w W1 by rw [hW];exact bA (bR w) _)
 rw [← hW]
 clear hW
 go_wp2_with fail
 go_loopw [5] (fun u wr=>∃ k:Nat,k≤l.length∧u=.int .i64 k∧Below W1.heap.size W1 wr∧∀ j (hj:j<l.length),j<k→bef l[j] p=true) (fun u _=>l.length-(intOf u).toNat)
 case atStart => exact ⟨0,Nat.zero_le _,rfl,bR W1,fun _ _ h=>by omega⟩
 case round =>
  obtain ⟨k,hk,rfl,hb,hno⟩:=hrel
  obtain ⟨wo,rfl⟩:∃ wo:World,wo=wr:=⟨_,rfl⟩
  have Hb:=Lib.hid hb;have HNo:=Lib.hid hno
  have X1:=HX1.out.keep hb
  clear hb hno
  have q1:(0:Int)≤k:=by omega
  have HRun1:=Lib.hid (run_pre Tryz.underlying25 (fun w=>show (Go.sizeOf 42).run Tryz.prog w=.ok 2 w by kernel_rfl) A l.length c k hk hn)
  have HRun2:=Lib.hid (run_cut Tryz.underlying25 (fun w=>show (Go.sizeOf 42).run Tryz.prog w=.ok 2 w by kernel_rfl) A l.length c k hk (k:Int) rfl)
  have HTk:=Lib.hid (show Sl w (.slice A k c) (l.take k).length ((l.take k).flatMap ptC) from Sl.pre_ HC.out k hk)
  have HDr:=Lib.hid (show Sl w (.slice (cutA A c k 2) (l.length-k) (c-k)) (l.drop k).length ((l.drop k).flatMap ptC) from Sl.from_ ptC_len HC.out k hk)
  have HTl:=Lib.hid (show (l.take k).length≤2000000 by rw [List.length_take];omega)
  have HDl:=Lib.hid (show (l.drop k).length≤2000000 by rw [List.length_drop];omega)
  obtain ⟨X1l,X1a,X1b,-,-⟩:=X1.facts2
  by_cases hlt:k<l.length
  ·
   have q2:(k:Int)<l.length:=by omega
   obtain ⟨b,o,rfl,hlb,d0,d1⟩:=(HR.out.mono (bT HB1.out Hb.out)).pt hlt
   have hlb0:=hlb
   obtain ⟨r,hr⟩:∃ r,l[k]=r:=⟨_,rfl⟩
   rw [hr] at d0 d1
   have Hr:=Lib.hid hr
   have HBr:=Lib.hid (HBe.out r)
   clear hr
   cases hbr:bef r p
   case true =>
    rw [hbr] at HBr
    have Hbr:=Lib.hid hbr
    clear hbr
    go_upto_region 2 with fail
    refine rg_start (Since wo) (.run 10 0 0 (.call 10 2047 (.take 11 4095 (.done)))) (by kernel_rfl) (bD (bR _)) (by kernel_rfl) (by kernel_rfl) (Nat.le_of_ble_eq_true (by kernel_rfl)) ?_
    intro opsR QR Hops HQrg hS
    iterate 5
     apply rg_p;exact Hops;exact rfl;exact hS;exact rfl
     · intro _ hqc;go_simp;try rfl
     try simp only [pu]
    iterate 5
     apply rg_g;exact Hops;exact rfl;exact hS;iterate 4 exact rfl
     · intro _ hqc;go_simp;try rfl
     try simp only [pu]
    refine rg_call (i:=10) (get_of Hops rfl) (fun K hK=>?_)
    have HSrg:=Lib.hid hS;clear hS
    refine rg_run (wanted_yes rfl (get_of Hops rfl) rfl rfl) ?_
    go_simp
    refine (HBr.out _).mono ?_
    rintro e wr1 ⟨rfl,hbr1⟩
    have hS:Since wo wr1:=bT (w:=wo) HSrg.out hbr1
    clear HSrg
    refine hK.out _ _ hS (fun _=>?_)
    clear hK K
    try simp only [pu]
    apply rg_p;exact Hops;exact rfl;exact hS;exact rfl
    · intro _ hqc;go_simp;try rfl
    try simp only [pu]
    refine rg_done ?_
    refine HQrg.down _ _ ?_
    have hB:Below wo.heap.size wo wr1:=hS
    clear hS HQrg Hops
    have Hb2:=Lib.hid (bT Hb.out hB)
    clear X1l X1a X1b d0 d1 hB hlb
    go_wp2_with fail
    go_roundw
    case rel => exact ⟨k+1,by omega,by go_num,Hb2.out,all_succ (p:=fun y=>bef y p=true) HNo.out hlt (by rw [Hr.out];exact Hbr.out)⟩
    case measure => simp [intOf];omega
   case false =>
    rw [hbr] at HBr
    have Hbr:=Lib.hid hbr
    clear hbr
    go_upto_region 2 with fail
    refine rg_start (Since wo) (.run 10 0 0 (.call 10 2047 (.take 11 4095 (.done)))) (by kernel_rfl) (bD (bR _)) (by kernel_rfl) (by kernel_rfl) (Nat.le_of_ble_eq_true (by kernel_rfl)) ?_
    intro opsR QR Hops HQrg hS
    iterate 5
     apply rg_p;exact Hops;exact rfl;exact hS;exact rfl
     · intro _ hqc;go_simp;try rfl
     try simp only [pu]
    iterate 5
     apply rg_g;exact Hops;exact rfl;exact hS;iterate 4 exact rfl
     · intro _ hqc;go_simp;try rfl
     try simp only [pu]
    refine rg_call (i:=10) (get_of Hops rfl) (fun K hK=>?_)
    have HSrg:=Lib.hid hS;clear hS
    refine rg_run (wanted_yes rfl (get_of Hops rfl) rfl rfl) ?_
    go_simp
    refine (HBr.out _).mono ?_
    rintro e wr1 ⟨rfl,hbr1⟩
    have hS:Since wo wr1:=bT (w:=wo) HSrg.out hbr1
    clear HSrg
    refine hK.out _ _ hS (fun _=>?_)
    clear hK K
    try simp only [pu]
    apply rg_p;exact Hops;exact rfl;exact hS;exact rfl
    · intro _ hqc;go_simp;try rfl
    try simp only [pu]
    refine rg_done ?_
    refine HQrg.down _ _ ?_
    have hB:Below wo.heap.size wo wr1:=hS
    clear hS HQrg Hops
    obtain ⟨W3,hW3⟩:∃ W:World,W=wr1:=⟨_,rfl⟩
    rw [← hW3] at hB ⊢
    have Hb3:=Lib.hid (bT Hb.out hB)
    have X3:=HX1.out.keep Hb3.out
    have e0:W3.cell? ⟨b,o+k*2,none⟩=some (.int .i64 r.x):=keepc hB d0
    have e1:W3.cell? ⟨b,o+k*2+1,none⟩=some (.int .i64 r.y):=keepc hB d1
    have hlb3:b<W3.heap.size:=Nat.lt_of_lt_of_le hlb0 hB.size
    clear hW3 X1l X1a X1b d0 d1 hB hlb
    obtain ⟨X3l,X3a,X3b,-,-⟩:=X3.facts2
    by_cases hrp:r=p
    ·
     have heq:∀ W,(binOp .eql 42 (.agg #[.int .i64 r.x,.int .i64 r.y]) (.agg #[.int .i64 p.x,.int .i64 p.y])).run Tryz.prog W=.ok (.bool true) W:=fun W=>by rw [run_eql_pt];simp [hrp]
     have H9:=Lib.hid (show l=q by rw [← Hq.out];exact (withP_in hlt HNo.out (by rw [Hr.out];exact hrp)).symm)
     clear hrp
     go_upto_region 4 with fail
     refine rg_start (Since W3) (.run 12 0 0 (.done)) (by kernel_rfl) (bD (bR _)) (by kernel_rfl) (by kernel_rfl) (Nat.le_of_ble_eq_true (by kernel_rfl)) ?_
     intro opsR QR Hops HQrg hS
     iterate 5
      apply rg_p;exact Hops;exact rfl;exact hS;exact rfl
      · intro _ hqc;go_simp;try rfl
      try simp only [pu]
     iterate 6
      apply rg_g;exact Hops;exact rfl;exact hS;iterate 4 exact rfl
      · intro _ hqc;go_simp;try rfl
      try simp only [pu]
     apply rg_p;exact Hops;exact rfl;exact hS;exact rfl
     · intro _ hqc;go_simp;try rfl
     try simp only [pu]
     refine rg_done ?_
     refine HQrg.down _ _ ?_
     have hB:Below W3.heap.size W3 W3.drew:=hS
     clear hS HQrg Hops
     go_wp2_with fail
     go_ret
     rw [← H9.out]
     exact ⟨_,c,rfl,bT HB1.out (bT Hb3.out hB),HC.out.mono (bT HB1.out (bT Hb3.out hB))⟩
    ·
     have heq:∀ W,(binOp .eql 42 (.agg #[.int .i64 r.x,.int .i64 r.y]) (.agg #[.int .i64 p.x,.int .i64 p.y])).run Tryz.prog W=.ok (.bool false) W:=fun W=>by rw [run_eql_pt];simp [hrp]
     have HIns:=Lib.hid (show q=l.take k++p::l.drop k by rw [← Hq.out];exact withP_at HNo.out (.inr ⟨hlt,by rw [Hr.out];exact Hbr.out,by rw [Hr.out];exact hrp⟩))
     clear hrp
     go_upto_region 4 with fail
     refine rg_start (Since W3) (.run 12 0 0 (.done)) (by kernel_rfl) (bD (bR _)) (by kernel_rfl) (by kernel_rfl) (Nat.le_of_ble_eq_true (by kernel_rfl)) ?_
     intro opsR QR Hops HQrg hS
     iterate 5
      apply rg_p;exact Hops;exact rfl;exact hS;exact rfl
      · intro _ hqc;go_simp;try rfl
      try simp only [pu]
     iterate 6
      apply rg_g;exact Hops;exact rfl;exact hS;iterate 4 exact rfl
      · intro _ hqc;go_simp;try rfl
      try simp only [pu]
     apply rg_p;exact Hops;exact rfl;exact hS;exact rfl
     · intro _ hqc;go_simp;try rfl
     try simp only [pu]
     refine rg_done ?_
     refine HQrg.down _ _ ?_
     have hB:Below W3.heap.size W3 W3.drew:=hS
     clear hS HQrg Hops
     obtain ⟨W5,hW5⟩:∃ W:World,W=W3.drew:=⟨_,rfl⟩
     rw [← hW5] at hB ⊢
     have Hb5:=Lib.hid (bT Hb3.out hB)
     have X5:=HX1.out.keep Hb5.out
     clear hW5 hB heq e0 e1 hlb3 X3 X3l X3a X3b
     have hrun1:=HRun1.out;have hrun2:=HRun2.out
     go_upto_region 7 with
      (at_builtin
       refine wpList_appl _ rfl (.tmp 34) (.tmp 37) _ rfl (base:=W1.heap.size) elem_pt ptC_len ptC_one rfl (Own.lit _ _ _ _ ptC [] _ 0 _ rfl rfl Hb5.out.size (le_maxLen (by omega)) rfl rfl) rfl (l2:=l.take k) (HTk.out.mono (bA (bT HB1.out Hb5.out) _)) (by have:=HTl.out;simp only [List.length_nil];omega) (by have:=HTl.out;simp only [List.length_nil];omega) (by have:=Hb5.out.size;simp;omega) ?_
       intro v1 w1 ho1 hg1 hat1
       rw [List.nil_append] at ho1
       have HO1:=Lib.hid ho1
       have B1:=Lib.hid (show Below W1.heap.size W1 w1 from bG (bA Hb5.out _) hg1 (fun g hg=>by have h:=Option.some.inj hg;have:=Hb5.out.size;simp at h;omega))
       have hz1:W1.heap.size≤w1.heap.size:=B1.out.size
       clear ho1 hg1 hat1)
     have X7:=HX1.out.keep B1.out
     have hx0:w.heap.size<W1.heap.size:=HX1.out.lt
     obtain ⟨X7l,X7a,X7b,-,-⟩:=X7.facts2
     refine rg_start (SinceB (W1.heap.size) w1) (.take 0 1 (.take 1 3 (.run 3 4 3 (.call 2 119 (.call 3 127 (.call 7 255 (.take 8 511 (.done)))))))) (by kernel_rfl) (Below.drew (Below.refl _ _)) (by kernel_rfl) (by kernel_rfl) (Nat.le_of_ble_eq_true (by kernel_rfl)) ?_
     intro opsR QR Hops HQrg hS
     iterate 5
      apply rg_pB;exact Hops;exact rfl;exact hS;exact rfl
      · intro _ hqc;go_simp;try rfl
      try simp only [pu]
     refine rg_call (i:=2) (get_of Hops rfl) (fun K hK=>?_)
     have HSrg:=Lib.hid hS;clear hS
     refine rg_run (wanted_plain rfl) ?_
     go_simp
     refine hK.out _ _ (bAB (by omega) HSrg.out _) (fun hS=>?_)
     clear hK K HSrg
     try simp only [pu]
     refine rg_call (i:=3) (get_of Hops rfl) (fun K hK=>?_)
     have HSrg:=Lib.hid hS;clear hS
     refine rg_run (wanted_plain rfl) ?_
     refine wp_appl (.tmp 39) (.tmp 41) _ rfl (base:=W1.heap.size) elem_pt ptC_len ptC_one rfl (Own.alloc (HO1.out.keep (bD (bR w1))) _) rfl (l2:=[p]) (Pts.one (x:=p) (Blk.made rfl _ _)) (by have:=HTl.out;simp only [List.length_cons,List.length_nil];omega) (by have:=HTl.out;simp only [List.length_cons,List.length_nil];omega) (by simp;omega) ?_
     intro v2 wr2 ho2 hg2 hat2
     have hB2:Below W1.heap.size w1 wr2:=Below.grown (Below.alloc (Below.drew (Below.refl _ _)) (by simp;omega) _) hg2 (by simp;omega) (fun g hg=>(HO1.out.lt g hg).1)
     have hS:SinceB (W1.heap.size) w1 wr2:=hB2
     have HB2:=Lib.hid hB2
     have HO2:=Lib.hid ho2
     have hz2:W1.heap.size≤wr2.heap.size:=Nat.le_trans hz1 hB2.size
     clear ho2 hg2 hat2 hB2
     clear HSrg
     refine hK.out _ _ hS (fun _=>?_)
     clear hK K
     try simp only [pu]
     refine rg_call (i:=7) (get_of Hops rfl) (fun K hK=>?_)
     have HSrg:=Lib.hid hS;clear hS
     refine rg_run (wanted_plain rfl) ?_
     refine wp_appl (.tmp 42) (.tmp 45) _ rfl (base:=W1.heap.size) elem_pt ptC_len ptC_one rfl HO2.out rfl (l2:=l.drop k) (HDr.out.mono (bT HB1.out (B1.out.trans HB2.out))) (by have:=HTl.out;have:=HDl.out;simp only [List.length_append,List.length_cons,List.length_nil];omega) (by have:=HTl.out;have:=HDl.out;simp only [List.length_append,List.length_cons,List.length_nil];omega) hz2 ?_
     intro v3 wr3 ho3 hg3 hat3
     rw [List.append_assoc,List.singleton_append,← HIns.out] at ho3
     have hS:SinceB (W1.heap.size) w1 wr3:=Below.grown HB2.out hg3 hz2 (fun g hg=>(HO2.out.lt g hg).1)
     obtain ⟨A3,c3,hv3,-,-⟩:=Own.shape_ ho3
     subst hv3
     have HO3:=Lib.hid ho3
     clear ho3 hg3 hat3
     clear HSrg
     refine hK.out _ _ hS (fun _=>?_)
     clear hK K
     try simp only [pu]
     apply rg_pB;exact Hops;exact rfl;exact hS;exact rfl
     · intro _ hqc;go_simp;try rfl
     try simp only [pu]
     refine rg_done ?_
     refine HQrg.down _ _ ?_
     have hB:Below (W1.heap.size) w1 _:=hS
     clear hS HQrg Hops
     go_wp2_with fail
     go_ret
     exact ⟨A3,c3,rfl,bT HB1.out (B1.out.trans hB),HO3.out.sl⟩
  ·
   have hkl:k=l.length:=by omega
   have q2:¬ (k:Int)<l.length:=by omega
   have HIns:=Lib.hid (show q=l.take k++p::l.drop k by rw [← Hq.out];exact withP_at HNo.out (.inl hkl))
   clear hkl
   go_upto_region 2 with fail
   refine rg_start (Since wo) (.run 12 0 0 (.done)) (by kernel_rfl) (bD (bR _)) (by kernel_rfl) (by kernel_rfl) (Nat.le_of_ble_eq_true (by kernel_rfl)) ?_
   intro opsR QR Hops HQrg hS
   iterate 5
    apply rg_p;exact Hops;exact rfl;exact hS;exact rfl
    · intro _ hqc;go_simp;try rfl
    try simp only [pu]
   iterate 6
    refine rg_yn Hops rfl hS rfl rfl rfl rfl rfl ?_
    try simp only [pu]
   apply rg_p;exact Hops;exact rfl;exact hS;exact rfl
   · intro _ hqc;go_simp;try rfl
   try simp only [pu]
   refine rg_done ?_
   refine HQrg.down _ _ ?_
   have hB:Below wo.heap.size wo wo.drew:=hS
   clear hS HQrg Hops
   obtain ⟨W3,hW3⟩:∃ W:World,W=wo.drew:=⟨_,rfl⟩
   rw [← hW3] at hB ⊢
   have Hb3:=Lib.hid (bT Hb.out hB)
   clear hW3 X1 X1l X1a X1b hB
   go_upto_region 4 with fail
   refine rg_start (Since W3) (.run 12 0 0 (.done)) (by kernel_rfl) (bD (bR _)) (by kernel_rfl) (by kernel_rfl) (Nat.le_of_ble_eq_true (by kernel_rfl)) ?_
   intro opsR QR Hops HQrg hS
   iterate 5
    apply rg_p;exact Hops;exact rfl;exact hS;exact rfl
    · intro _ hqc;go_simp;try rfl
    try simp only [pu]
   iterate 6
    refine rg_yn Hops rfl hS rfl rfl rfl rfl rfl ?_
    try simp only [pu]
   apply rg_p;exact Hops;exact rfl;exact hS;exact rfl
   · intro _ hqc;go_simp;try rfl
   try simp only [pu]
   refine rg_done ?_
   refine HQrg.down _ _ ?_
   have hB:Below W3.heap.size W3 W3.drew:=hS
   clear hS HQrg Hops
   obtain ⟨W5,hW5⟩:∃ W:World,W=W3.drew:=⟨_,rfl⟩
   rw [← hW5] at hB ⊢
   have Hb5:=Lib.hid (bT Hb3.out hB)
   have X5:=HX1.out.keep Hb5.out
   clear hW5 hB
   have hrun1:=HRun1.out;have hrun2:=HRun2.out
   go_upto_region 7 with
    (at_builtin
     refine wpList_appl _ rfl (.tmp 34) (.tmp 37) _ rfl (base:=W1.heap.size) elem_pt ptC_len ptC_one rfl (Own.lit _ _ _ _ ptC [] _ 0 _ rfl rfl Hb5.out.size (le_maxLen (by omega)) rfl rfl) rfl (l2:=l.take k) (HTk.out.mono (bA (bT HB1.out Hb5.out) _)) (by have:=HTl.out;simp only [List.length_nil];omega) (by have:=HTl.out;simp only [List.length_nil];omega) (by have:=Hb5.out.size;simp;omega) ?_
     intro v1 w1 ho1 hg1 hat1
     rw [List.nil_append] at ho1
     have HO1:=Lib.hid ho1
     have B1:=Lib.hid (show Below W1.heap.size W1 w1 from bG (bA Hb5.out _) hg1 (fun g hg=>by have h:=Option.some.inj hg;have:=Hb5.out.size;simp at h;omega))
     have hz1:W1.heap.size≤w1.heap.size:=B1.out.size
     clear ho1 hg1 hat1)
   have X7:=HX1.out.keep B1.out
   have hx0:w.heap.size<W1.heap.size:=HX1.out.lt
   try clear X7l
   try clear X7a
   try clear X7b
   obtain ⟨X7l,X7a,X7b,-,-⟩:=X7.facts2
   refine rg_start (SinceB (W1.heap.size) w1) (.take 0 1 (.take 1 3 (.run 3 4 3 (.call 2 119 (.call 3 127 (.call 7 255 (.take 8 511 (.done)))))))) (by kernel_rfl) (Below.drew (Below.refl _ _)) (by kernel_rfl) (by kernel_rfl) (Nat.le_of_ble_eq_true (by kernel_rfl)) ?_
   intro opsR QR Hops HQrg hS
   iterate 5
    apply rg_pB;exact Hops;exact rfl;exact hS;exact rfl
    · intro _ hqc;go_simp;try rfl
    try simp only [pu]
   refine rg_call (i:=2) (get_of Hops rfl) (fun K hK=>?_)
   have HSrg:=Lib.hid hS;clear hS
   refine rg_run (wanted_plain rfl) ?_
   go_simp
   refine hK.out _ _ (bAB (by omega) HSrg.out _) (fun hS=>?_)
   clear hK K HSrg
   try simp only [pu]
   refine rg_call (i:=3) (get_of Hops rfl) (fun K hK=>?_)
   have HSrg:=Lib.hid hS;clear hS
   refine rg_run (wanted_plain rfl) ?_
   refine wp_appl (.tmp 39) (.tmp 41) _ rfl (base:=W1.heap.size) elem_pt ptC_len ptC_one rfl (Own.alloc (HO1.out.keep (bD (bR w1))) _) rfl (l2:=[p]) (Pts.one (x:=p) (Blk.made rfl _ _)) (by have:=HTl.out;simp only [List.length_cons,List.length_nil];omega) (by have:=HTl.out;simp only [List.length_cons,List.length_nil];omega) (by simp;omega) ?_
   intro v2 wr2 ho2 hg2 hat2
   have hB2:Below W1.heap.size w1 wr2:=Below.grown (Below.alloc (Below.drew (Below.refl _ _)) (by simp;omega) _) hg2 (by simp;omega) (fun g hg=>(HO1.out.lt g hg).1)
   have hS:SinceB (W1.heap.size) w1 wr2:=hB2
   have HB2:=Lib.hid hB2
   have HO2:=Lib.hid ho2
   have hz2:W1.heap.size≤wr2.heap.size:=Nat.le_trans hz1 hB2.size
   clear ho2 hg2 hat2 hB2
   clear HSrg
   refine hK.out _ _ hS (fun _=>?_)
   clear hK K
   try simp only [pu]
   refine rg_call (i:=7) (get_of Hops rfl) (fun K hK=>?_)
   have HSrg:=Lib.hid hS;clear hS
   refine rg_run (wanted_plain rfl) ?_
   refine wp_appl (.tmp 42) (.tmp 45) _ rfl (base:=W1.heap.size) elem_pt ptC_len ptC_one rfl HO2.out rfl (l2:=l.drop k) (HDr.out.mono (bT HB1.out (B1.out.trans HB2.out))) (by have:=HTl.out;have:=HDl.out;simp only [List.length_append,List.length_cons,List.length_nil];omega) (by have:=HTl.out;have:=HDl.out;simp only [List.length_append,List.length_cons,List.length_nil];omega) hz2 ?_
   intro v3 wr3 ho3 hg3 hat3
   rw [List.append_assoc,List.singleton_append,← HIns.out] at ho3
   have hS:SinceB (W1.heap.size) w1 wr3:=Below.grown HB2.out hg3 hz2 (fun g hg=>(HO2.out.lt g hg).1)
   obtain ⟨A3,c3,hv3,-,-⟩:=Own.shape_ ho3
   subst hv3
   have HO3:=Lib.hid ho3
   clear ho3 hg3 hat3
   clear HSrg
   refine hK.out _ _ hS (fun _=>?_)
   clear hK K
   try simp only [pu]
   apply rg_pB;exact Hops;exact rfl;exact hS;exact rfl
   · intro _ hqc;go_simp;try rfl
   try simp only [pu]
   refine rg_done ?_
   refine HQrg.down _ _ ?_
   have hB:Below (W1.heap.size) w1 _:=hS
   clear hS HQrg Hops
   go_wp2_with fail
   go_ret
   exact ⟨A3,c3,rfl,bT HB1.out (B1.out.trans hB),HO3.out.sl⟩
end Go.Proofs.YtpempeioeiaijaaGreat
namespace Go.Proofs.YtpempeioeiaijaaGreat
open Go.ChangeShapes Go.WideShapes Go.RowKit

theorem own_knob:ownKnob Tryz.prog.godebug=none:=by kernel_rfl
theorem laid_out:laidOutB Tryz.prog=true:=by kernel_rfl

section
variable {H:Type} {enc:TypeId×Value→H} {P:Program}
theorem arg_again {t:TypeId} (hl:laidOutB P=true) (hr:P.readableRec t=true) (hrow:t<P.types.size) {W W':World} {v:Value} {d:DataW H} {ps:List MemPlace} {sp:Nat→Bool}
  (h:DataW.Trod enc P W 0 (fun _=>true) true t v d ps) (hb:Below W.heap.size W W') (hlt:∀ x∈ps,x.block<W.heap.size) (hs:∀ x∈ps,sp x.block=true):DataW.Trod enc P W' 0 sp true t v d ps :=
 WideElems.Trod_stays hl hr hrow h (fun x hx=>hb.same (hlt x hx)) hs

theorem law_post {f:Func} {s:ChangeSpec} {W W':World} {args:Array Value} {v:Value} {ds gs:List (DataW H)} {before:List MemPlace}
  (hW:DataW.Whole enc P f.params.toList s.vars false W args.toList ds gs before) (hv:s.vars=[]) (hb:Below W.heap.size W W')
  (hres:∀ (b:Nat) (sp:Nat→Bool) (hd:Bool),DataW.TrodAll enc P W' b sp hd f.resultTypes.toList (v.resultList f.resultTypes.size) (s.fn H (ds++gs)).results [])
  (hargs:∀ sp:Nat→Bool,(∀ p∈before,sp p.block=true)→DataW.TrodAll enc P W' 0 sp true f.params.toList args.toList (s.fn H (ds++gs)).args before)
  (hvars:(s.fn H (ds++gs)).vars=[])
  (hok:∀ (j:Nat) (t:TypeId) (r:Value),f.resultTypes[j]? = some t→(v.resultList f.resultTypes.size)[j]? = some r→Value.okWide P W' .any 0 t r) :
  s.post enc P f false true false false W args v W':=by
 have hlow:∀ p∈before,p.block<W.heap.size:=fun p hp=>hW.lt p hp
 have hno:∀ sp:Nat→Bool,DataW.TrodVars enc P W' sp s.vars (s.fn H (ds++gs)).vars []:=fun sp=>by rw [hv,hvars];rfl
 have htest:∀ p∈before,(fun b=>decide (b<W.heap.size)) p.block=true:=fun p hp=>decide_eq_true (hlow p hp)
 refine ⟨ds,gs,before,[],before,[],hW,hres _ _ _,hargs _ htest,hno _,?_,fun hc=>by cases hc⟩
 exact World.keptBut_mono (fun p hp=>⟨hp,Or.inr (Or.inl hp)⟩) (hb.frame (·∈before))
end
end Go.Proofs.YtpempeioeiaijaaGreat
namespace Go.Proofs.YtpempeioeiaijaaGreat
open Go.RowKit

theorem keyed_pt:Maps.Keyed Tryz.prog 42:=Maps.Keyed.of_law (deep_law_laid laid_out (m:=2) (by omega) (of_decide_eq_true (by kernel_rfl)) (by kernel_rfl) (by kernel_rfl))
theorem ntypes:∃ n,Tryz.prog.types.size=n+1:=⟨Tryz.prog.types.size-1,by kernel_rfl⟩
theorem key_pt (p:Pt) (h:wfPt p):∃ l,keyOf Tryz.prog 42 (ptV p)=some l:=by
 obtain ⟨n,hn⟩:=ntypes
 have h1:Tryz.prog.keyType 42=true:=by kernel_rfl
 have h2:(ptV p).formed Tryz.prog 42=true:=by
  unfold ptV Value.formed
  rw [Tryz.underlying42]
  simp only [c_pt]
  rfl
 have h3:∃ ls,Tryz.prog.keyLits (n+1+1) 42 (ptV p).cells.toList=some ls:=by
  have hx:=h.1;have hy:=h.2
  unfold wfI at hx hy
  simp [Program.keyLits,Tryz.underlying42,Tryz.underlying3,c_pt,c_int,ptV,Value.cells,hx,hy]
 obtain ⟨ls,h3⟩:=h3
 refine ⟨.string (keyBytes ls),?_⟩
 unfold keyOf
 rw [Tryz.underlying42,hn]
 simp only
 rw [h1,h2,h3]
 rfl

end Go.Proofs.YtpempeioeiaijaaGreat
namespace Go.Proofs.YtpempeioeiaijaaGreat
open Go.RowKit

structure PNf (f:Pt→Int) (D:DataW Unit):Prop where
 at_:∀ p l,keyOf Tryz.prog 42 (ptV p)=some l→D.atKey l (iiD 0)=iiD (f p)
 has:∀ p l,keyOf Tryz.prog 42 (ptV p)=some l→Maps.has D l=decide (f p≠0)
theorem ptV_inj {p q:Pt} (h:ptV p=ptV q):p=q:=by
 unfold ptV at h
 simp only [Value.agg.injEq] at h
 have h0:=congrArg (fun a:Array Value=>a.toList) h
 simp only [List.cons.injEq,Value.int.injEq,and_true,true_and] at h0
 exact Pt.ext_iff'.2 ⟨h0.1,h0.2⟩
theorem key_ne {p q:Pt} {l m:Lit} (hp:keyOf Tryz.prog 42 (ptV p)=some l) (hq:keyOf Tryz.prog 42 (ptV q)=some m) (h:p≠q):l≠m:=fun e=>by
 subst e
 exact h (ptV_inj (keyed_pt.inj hp hq))
set_option maxRecDepth 100000 in
theorem key_inv {key:Value} {l:Lit} (h:keyOf Tryz.prog 42 key=some l):∃ p,key=ptV p∧wfPt p:=by
 obtain ⟨n,hn⟩:=ntypes
 unfold keyOf at h
 rw [Tryz.underlying42,hn] at h
 simp only at h
 split at h
 ·
  rename_i h1
  rw [Bool.and_eq_true] at h1
  have hf:=h1.2
  obtain ⟨ls,hls,-⟩:=Option.map_eq_some_iff.1 h
  have hcs:∃ a b,key=.agg #[a,b]:=by
   cases key with
   | agg cs =>
    unfold Value.formed at hf
    rw [Tryz.underlying42] at hf
    simp only [c_pt] at hf
    obtain ⟨cs⟩:=cs
    have h2:cs.length=2:=by simpa using hf
    obtain ⟨a,b,rfl⟩:=lst2 h2
    exact ⟨a,b,rfl⟩
   | _=>unfold Value.formed at hf;rw [Tryz.underlying42] at hf;cases hf
  obtain ⟨a,b,rfl⟩:=hcs
  rw [Program.keyLits.eq_def] at hls
  simp only [Tryz.underlying42,c_pt,Value.cells] at hls
  split at hls
  ·
   obtain ⟨ls2,hls2,-⟩:=Option.map_eq_some_iff.1 hls
   simp only [List.mapM_cons,List.mapM_nil,List.drop,List.take,c_int] at hls2
   obtain ⟨la,ha,hls2⟩:=Option.bind_eq_some_iff.1 hls2
   obtain ⟨lb,hb,-⟩:=Option.bind_eq_some_iff.1 hls2
   obtain ⟨x,hx,-⟩:=keyLits_int' Tryz.underlying3 ha
   obtain ⟨lb2,hb2,-⟩:=Option.bind_eq_some_iff.1 hb
   obtain ⟨y,hy,-⟩:=keyLits_int' Tryz.underlying3 hb2
   simp only [List.cons.injEq,and_true] at hx hy
   subst hx hy
   rw [Program.keyLits.eq_def] at ha hb2
   simp only [Tryz.underlying3,true_and] at ha hb2
   refine ⟨⟨x,y⟩,rfl,?_,?_⟩
   ·
    unfold wfI
    split at ha
    · assumption
    · cases ha
   ·
    unfold wfI
    split at hb2
    · assumption
    · cases hb2
  · cases hls
 · cases h
def MapPN (w:World) (b n:Nat) (f:Pt→Int):Prop :=
 ∃ D:DataW Unit,w.ownsMap Tryz.prog 42 iiR b n D∧Maps.IsMap D∧PNf f D
theorem MapPN.kept {w w':World} {b n:Nat} {f:Pt→Int} (h:MapPN w b n f) {row:Option Nat} (hg:w.grownBy w' row) (hr:some b≠row):MapPN w' b n f:=by
 obtain ⟨D,h1,h2⟩:=h
 exact ⟨D,h1.kept hg hr,h2⟩
theorem MapPN.keep {w w':World} {b n:Nat} {f:Pt→Int} (h:MapPN w b n f) (hb:Below w.heap.size w w'):MapPN w' b n f :=
 h.kept (row:=none) ⟨hb.os,hb.tape,hb.output,hb.size,fun i hi _=>hb.block i hi⟩ (by simp)
theorem MapPN.made (w:World):MapPN (w.alloc (.map #[] 0)) w.heap.size 0 (fun _=>0) :=
 ⟨.map [],World.ownsMap_made _ _ _ _,⟨_,rfl⟩,fun _ _ _=>rfl,fun _ _ _=>rfl⟩
set_option maxRecDepth 100000 in
theorem MapPN.look {w:World} {b n:Nat} {f:Pt→Int} (h:MapPN w b n f) (p:Pt) (hp:wfPt p) :
  (Instr.lookup 52 (.map (some b)) (.agg #[.int .i64 p.x,.int .i64 p.y]) false).run Tryz.prog w=.ok (.int .i64 (f p)) w:=by
 obtain ⟨D,h1,-,h2⟩:=h
 obtain ⟨l,hl⟩:=key_pt p hp
 obtain ⟨v,ps,hr,hv⟩:=h1.lookup keyed_pt Tryz.underlying52 (zero_ii w) (zd:=iiD 0) (zp:=[]) rfl hl
 rw [h2.at_ p l hl] at hv
 have hr':(Instr.lookup 52 (.map (some b)) (.agg #[.int .i64 p.x,.int .i64 p.y]) false).run Tryz.prog w=.ok v w:=hr
 rw [hr',iiR_inv hv]
set_option maxRecDepth 100000 in
theorem MapPN.look_ok {w:World} {b n:Nat} {f:Pt→Int} (h:MapPN w b n f) (p:Pt) (hp:wfPt p) :
  (Instr.lookup 52 (.map (some b)) (.agg #[.int .i64 p.x,.int .i64 p.y]) true).run Tryz.prog w=.ok (.tuple #[.int .i64 (f p),.bool (decide (f p≠0))]) w:=by
 obtain ⟨D,h1,-,h2⟩:=h
 obtain ⟨l,hl⟩:=key_pt p hp
 obtain ⟨v,ps,hr,hv⟩:=h1.look_ok keyed_pt Tryz.underlying52 (zero_ii w) (zd:=iiD 0) (zp:=[]) rfl hl
 rw [h2.at_ p l hl] at hv
 have hr':(Instr.lookup 52 (.map (some b)) (.agg #[.int .i64 p.x,.int .i64 p.y]) true).run Tryz.prog w=.ok (.tuple #[v,.bool (Maps.has D l)]) w:=hr
 rw [hr',iiR_inv hv,h2.has p l hl]
set_option maxRecDepth 100000 in
theorem PNf.put {f:Pt→Int} {D:DataW Unit} (h:PNf f D) (hm:Maps.IsMap D) {p:Pt} {l:Lit} (hl:keyOf Tryz.prog 42 (ptV p)=some l) (x:Int) (hx:x≠0):PNf (fun i=>if i=p then x else f i) (D.put l (iiD x)) where
 at_ i l' hl':=by
  by_cases e:i=p
  ·
   subst e
   rw [hl] at hl'
   injection hl' with hl'
   subst hl'
   simp only [if_true]
   exact Maps.atKey_put_same hm (keyed_pt.key hl) _ _
  ·
   simp only [if_neg e]
   rw [Maps.atKey_put_other (key_ne hl' hl e),h.at_ i l' hl']
 has i l' hl':=by
  by_cases e:i=p
  ·
   subst e
   rw [hl] at hl'
   injection hl' with hl'
   subst hl'
   simp only [if_true]
   rw [Maps.has_put_same hm (keyed_pt.key hl),decide_eq_true hx]
  ·
   simp only [if_neg e]
   rw [Maps.has_put_other (key_ne hl' hl e),h.has i l' hl']
set_option maxRecDepth 100000 in
theorem MapPN.upd {w:World} {b n:Nat} {f:Pt→Int} (h:MapPN w b n f) (hn:n<4294967296) (p:Pt) (hp:wfPt p) (x:Int) (hx:x≠0) :
  ∃ w',(Instr.mapUpdate 52 (.map (some b)) (.agg #[.int .i64 p.x,.int .i64 p.y]) (.int .i64 x)).run Tryz.prog w=.ok () w'∧MapPN w' b (n+1) (fun i=>if i=p then x else f i)∧w.grownBy w' (some b):=by
 obtain ⟨D,h1,hm,h2⟩:=h
 obtain ⟨l,hl⟩:=key_pt p hp
 obtain ⟨w',hr,ho,hg⟩:=h1.update keyed_pt Tryz.underlying52 (by unfold maxLen;omega) hl (val:=.int .i64 x) (d:=iiD x) (ps:=[]) rfl
 exact ⟨w',hr,⟨_,ho,hm.put _ _,h2.put hm hl x hx⟩,hg⟩
section
open Go.WideElems Go.ChangeShapes Go.WideShapes Go.MapKept Go.ChangeMaps
open Go.WideMaps (KeyLaw)
theorem entry_upd {H:Type} {P:Program} {w:World} {t k e:TypeId} {R:Value→Option (DataW H×List MemPlace)} {b:Nat} {es:Array MapEntry} {clock:Nat} (K:KeyLaw P k) (ht:P.underlying t=some (.map k e)) {z:Value} (hz:∀ u:World,(zeroValue e).run P u=.ok z u) (hb:w.heap[b]? = some (.map es clock)) (F:Fit P k R es clock)
  {key:Value} {kl:Lit} (hkey:keyOf P k key=some kl) :
  ∃ v0 st w1,(Instr.mapEntry t (.map (some b)) key).run P w=.ok (.tuple #[v0,goInt st]) w1∧(Instr.mapUpdate t (.map (some b)) key v0).run P w=.ok () w1∧(Instr.lookup t (.map (some b)) key false).run P w=.ok v0 w:=by
 rcases K.find w hkey es.toList F.keys with ⟨h1,h2⟩ | ⟨j,e0,h1,h2,h3⟩
 ·
  refine ⟨z,clock,setBlock w b (.map (es.push ⟨key,z,clock⟩) (clock+1)),?_,?_,?_⟩
  · simp [Instr.mapEntry,run_underlying ht,MapKept.run_getObj_map hb,K.check w false hkey,h1,hz,MapKept.run_setObj_map _ hb,Result.andThen,setBlock]
  · simp [Instr.mapUpdate,run_underlying ht,MapKept.run_getObj_map hb,K.check w false hkey,h1,MapKept.run_setObj_map _ hb,Result.andThen,setBlock]
  · simp [Instr.lookup,run_underlying ht,MapKept.run_getObj_map hb,K.check w _ hkey,h1,hz,Result.andThen]
 ·
  have hj:es[j]? = some e0:=by simpa using h2
  have hsame:es.modify j (fun e=>{e with key:=key})=es:=by
   apply Array.ext'
   rw [Array.toList_modify,modify_eq_set _ _ _ _ h2]
   have:({e0 with key:=key}:MapEntry)=e0:=by rw [← h3]
   rw [this]
   exact set_self _ _ _ h2
  have hsame2:es.modify j (fun e=>{e with key:=key,val:=e0.val})=es:=by
   apply Array.ext'
   rw [Array.toList_modify,modify_eq_set _ _ _ _ h2]
   have:({e0 with key:=key,val:=e0.val}:MapEntry)=e0:=by rw [← h3]
   rw [this]
   exact set_self _ _ _ h2
  refine ⟨e0.val,e0.born,setBlock w b (.map es clock),?_,?_,?_⟩
  · simp [Instr.mapEntry,run_underlying ht,MapKept.run_getObj_map hb,K.check w false hkey,h1,hj,h3,K.stays w hkey,hsame,MapKept.run_setObj_map _ hb,Result.andThen,setBlock]
  · simp [Instr.mapUpdate,run_underlying ht,MapKept.run_getObj_map hb,K.check w false hkey,h1,hj,h3,K.stays w hkey,hsame2,MapKept.run_setObj_map _ hb,Result.andThen,setBlock]
  · simp [Instr.lookup,run_underlying ht,MapKept.run_getObj_map hb,K.check w _ hkey,h1,hj,h3,Result.andThen]
theorem setBlock_twice (w:World) (b:Nat) (x y:Obj):setBlock (setBlock w b x) b y=setBlock w b y:=by
 unfold setBlock
 simp
theorem law_pt:KeyLaw Tryz.prog 42:=deep_law_laid laid_out (m:=2) (by omega) (of_decide_eq_true (by kernel_rfl)) (by kernel_rfl) (by kernel_rfl)
end
set_option maxRecDepth 100000 in
theorem MapPN.bump {w:World} {b n:Nat} {f:Pt→Int} (h:MapPN w b n f) (hn:n+1<4294967296) (p:Pt) (hp:wfPt p) (x:Int) (hx:x≠0) :
  ∃ (st:Int) (w1 w2:World),(Instr.mapEntry 52 (.map (some b)) (.agg #[.int .i64 p.x,.int .i64 p.y])).run Tryz.prog w=.ok (.tuple #[.int .i64 (f p),.int .i64 st]) w1∧w.grownBy w1 (some b) ∧
   (Instr.lookup 52 (.map (some b)) (.agg #[.int .i64 p.x,.int .i64 p.y]) false).run Tryz.prog w1=.ok (.int .i64 (f p)) w1 ∧
   (Instr.entryStore 52 (.map (some b)) (.int .i64 st) (.int .i64 x)).run Tryz.prog w1=.ok () w2∧MapPN w2 b (n+1) (fun i=>if i=p then x else f i)∧w.grownBy w2 (some b):=by
 obtain ⟨w2,hr2,hm2,hg2⟩:=h.upd (by omega) p hp x hx
 have hlk:=h.look p hp
 obtain ⟨D,h1,hm,h2⟩:=h
 obtain ⟨l,hl⟩:=key_pt p hp
 have h1':=h1
 obtain ⟨es,clock,hb,F,hsz,hD⟩:=h1'
 obtain ⟨v0,st,w1,r1,r2,r3⟩:=entry_upd law_pt Tryz.underlying52 zero_ii hb F hl
 obtain ⟨v0',st',es1,c1,r1',-,hst⟩:=Go.WideElems.entry_then_store law_pt Tryz.underlying52 zero_ii hb F hl
 rw [r1] at r1'
 have hv:v0=.int .i64 (f p):=by
  have e:(Instr.lookup 52 (.map (some b)) (.agg #[.int .i64 p.x,.int .i64 p.y]) false).run Tryz.prog w=.ok v0 w:=r3
  rw [hlk] at e
  injection e with e
  exact e.symm
 subst hv
 injection r1' with e1 e2
 have e3:st'=st:=by
  injection e1 with e1
  have:=congrArg (fun a:Array Value=>a.toList) e1
  simp only [List.cons.injEq,and_true] at this
  have h9:=this.2
  unfold goInt at h9
  injection h9 with _ h9
  omega
 subst e3
 obtain ⟨es',clock',hs1,hs2⟩:=hst w1 (.int .i64 x) (by rw [e2];exact Go.ChangeMaps.heap_setBlock_same hb _)
 have hw2:Go.ChangeMaps.setBlock w1 b (.map es' clock')=w2:=by
  have e:(Instr.mapUpdate 52 (.map (some b)) (.agg #[.int .i64 p.x,.int .i64 p.y]) (.int .i64 x)).run Tryz.prog w=.ok () (Go.ChangeMaps.setBlock w b (.map es' clock')):=hs2
  rw [hr2] at e
  injection e with _ e
  rw [e,e2,setBlock_twice]
 rw [hw2] at hs1
 obtain ⟨w1',hr1,ho1,hg1⟩:=h1.update keyed_pt Tryz.underlying52 (by unfold maxLen;omega) hl (val:=.int .i64 (f p)) (d:=iiD (f p)) (ps:=[]) rfl
 rw [r2] at hr1
 injection hr1 with _ hr1
 subst hr1
 refine ⟨st',w1,w2,r1,hg1,?_,hs1,hm2,hg2⟩
 obtain ⟨v,ps,hr,hv⟩:=ho1.lookup keyed_pt Tryz.underlying52 (zero_ii w1) (zd:=iiD 0) (zp:=[]) rfl hl
 rw [Maps.atKey_put_same hm (keyed_pt.key hl)] at hv
 have hr':(Instr.lookup 52 (.map (some b)) (.agg #[.int .i64 p.x,.int .i64 p.y]) false).run Tryz.prog w1=.ok v w1:=hr
 rw [hr',iiR_inv hv]
end Go.Proofs.YtpempeioeiaijaaGreat
namespace Go.Proofs.YtpempeioeiaijaaGreat
open Go.RowKit

def RngP (w:World) (b r n:Nat) (g:Pt→Int) (S:Pt→Bool) (cnt:Nat):Prop :=
 ∃ (D:DataW Unit) (left:Lit→Bool),w.ranges Tryz.prog 42 iiR b r n D left cnt∧Maps.IsMap D∧PNf g D∧∀ p l,keyOf Tryz.prog 42 (ptV p)=some l→left l=S p
theorem RngP.owns {w:World} {b r n:Nat} {g:Pt→Int} {S:Pt→Bool} {cnt:Nat} (h:RngP w b r n g S cnt):MapPN w b n g:=by
 obtain ⟨D,left,h1,h2,h3,-⟩:=h
 exact ⟨D,h1.owns,h2,h3⟩
theorem RngP.kept {w w':World} {b r n:Nat} {g:Pt→Int} {S:Pt→Bool} {cnt:Nat} (h:RngP w b r n g S cnt) {row:Option Nat} (hg:w.grownBy w' row) (hb:some b≠row) (hr:some r≠row):RngP w' b r n g S cnt:=by
 obtain ⟨D,left,h1,h2⟩:=h
 exact ⟨D,left,h1.kept hg hb hr,h2⟩
theorem RngP.left_eq {w:World} {b r n:Nat} {g:Pt→Int} {S:Pt→Bool} {cnt:Nat} (h:RngP w b r n g S cnt):w.rangeLeft b r=cnt:=by
 obtain ⟨D,left,h1,h2⟩:=h
 exact h1.left_eq
theorem MapPN.own_ne {w:World} {b n:Nat} {g:Pt→Int} (h:MapPN w b n g) {base:Nat} {e:TypeId} {size:Nat} {α:Type} {f:α→List Value} {v:Value} {l:List α} (ho:Own w base e size f v l):v.ownBlock≠some b:=by
 obtain ⟨D,h1,-⟩:=h
 obtain ⟨es,clock,hb,-⟩:=h1
 rcases ho.2 with ⟨rfl,_⟩ | ⟨g,cap,cur,rfl,_,hh,_⟩
 · simp [Value.ownBlock]
 ·
  intro e'
  have e2:g=b:=by simpa [Value.ownBlock] using e'
  rw [e2,hb] at hh;cases hh
theorem MapPN.blk_ne {w:World} {b n:Nat} {f:Pt→Int} (h:MapPN w b n f) {g:Nat} {t:TypeId} {cs:Array Value} (hg:Blk w g t cs):g≠b:=by
 rintro rfl
 obtain ⟨D,h1,-⟩:=h
 obtain ⟨es,clock,hb,-⟩:=h1
 unfold Blk at hg
 rw [hg] at hb
 cases hb
theorem RngP.own_ne {w:World} {b r n:Nat} {g:Pt→Int} {S:Pt→Bool} {cnt:Nat} (h:RngP w b r n g S cnt) {base:Nat} {e:TypeId} {size:Nat} {α:Type} {f:α→List Value} {v:Value} {l:List α} (ho:Own w base e size f v l):v.ownBlock≠some b∧v.ownBlock≠some r:=by
 obtain ⟨D,left,h1,-⟩:=h
 obtain ⟨es,clock,since,seen,c0,hb,-,-,-,hr,-⟩:=h1
 rcases ho.2 with ⟨rfl,_⟩ | ⟨g,cap,cur,rfl,_,hh,_⟩
 · simp [Value.ownBlock]
 ·
  constructor
  ·
   intro e'
   have e2:g=b:=by simpa [Value.ownBlock] using e'
   rw [e2,hb] at hh;cases hh
  ·
   intro e'
   have e2:g=r:=by simpa [Value.ownBlock] using e'
   rw [e2,hr] at hh;cases hh
set_option maxRecDepth 100000 in
theorem key_str {p:Pt} {l:Lit} (h:keyOf Tryz.prog 42 (ptV p)=some l) {q:Pt} {m:Lit} (h':keyOf Tryz.prog 42 (ptV q)=some m):m.sameKey l=decide (q=p):=by
 by_cases e:q=p
 ·
  subst e
  rw [h] at h'
  injection h' with h'
  subst h'
  rw [WideAt.sameKey_self (keyed_pt.key h)];simp
 · rw [Maps.sameKey_ne (key_ne h' h e)];simp [e]

section
variable (w:World) {ops:Array Oper} {rest:List Oper} {o:Oper} {a:Act} {Q:Exit→Act→World→Prop}
theorem wp_range_pn (hg:o.guard=none) (m:Operand) (hop:o.op=Op.range 52 m) (b n:Nat) (f:Pt→Int) (hm:a.eval m=.map (some b)) (h:MapPN w b n f)
  (hK:∀ w' cnt,RngP w' b w.heap.size n f (fun p=>decide (f p≠0)) cnt→w.grownBy w' none→w'.heap.size=w.heap.size+1→wpList Tryz.prog ops Q rest (a.put o.dst (.pointer (some ⟨w.heap.size,0,none⟩))) w') :
  wpList Tryz.prog ops Q (o::rest) a w:=by
 obtain ⟨D,h1,h2,h3⟩:=h
 exact wpList_range_own w hg m _ hop _ _ keyed_pt Tryz.underlying52 iiR b n D hm h1 fun w' hr hg' hs=>hK w' _ ⟨D,_,hr,h2,h3,fun p l hl=>h3.has p l hl⟩ hg' hs
theorem wp_next_pn (hg:o.guard=none) (it:Operand) (hop:o.op=Op.next it false) (b r n:Nat) (g:Pt→Int) (S:Pt→Bool) (cnt:Nat) (hit:a.eval it=.pointer (some ⟨r,0,none⟩)) (h:RngP w b r n g S cnt)
  (hDone:(∀ p,wfPt p→S p=false)→wpList Tryz.prog ops Q rest (a.put o.dst (.tuple #[.bool false])) w)
  (hMore:∀ (p:Pt) (w':World) (cnt':Nat),wfPt p→S p=true→RngP w' b r n g (fun q=>S q && !decide (q=p)) cnt'→cnt'<cnt→w.grownBy w' (some r)→w'.heap.size=w.heap.size →
   (Instr.entry (.pointer (some ⟨r,0,none⟩))).run Tryz.prog w'=.ok (.tuple #[.agg #[.int .i64 p.x,.int .i64 p.y],.int .i64 (g p)]) w'→wpList Tryz.prog ops Q rest (a.put o.dst (.tuple #[.bool true,.agg #[.int .i64 p.x,.int .i64 p.y],.int .i64 (g p)])) w') :
  wpList Tryz.prog ops Q (o::rest) a w:=by
 obtain ⟨D,left,h1,h2,h3,h4⟩:=h
 refine wpList_next_ranges w hg it hop _ keyed_pt iiR (fun p:Pt=>.agg #[.int .i64 p.x,.int .i64 p.y]) (fun c:Int=>.int .i64 c) (fun key kl hk=>?_) (fun v y hv=>?_) b r n D left cnt hit h1 (fun _ hl=>hDone fun p hp=>?_) ?_
 ·
  obtain ⟨p,rfl,-⟩:=key_inv hk
  exact ⟨p,rfl⟩
 ·
  unfold iiR at hv
  split at hv
  · exact ⟨_,rfl⟩
  · cases hv
 ·
  obtain ⟨l,hk⟩:=key_pt p hp
  rw [← h4 p l hk];exact hl l
 ·
  intro p c kl y w' cnt' hk hlk hy hat hr hlt hgr hsz hen
  have hk':keyOf Tryz.prog 42 (ptV p)=some kl:=hk
  have hwf:wfPt p:=by
   obtain ⟨p',e,hw⟩:=key_inv hk'
   rw [ptV_inj e];exact hw
  have hc:c=g p:=by
   have e1:=h3.at_ p kl hk'
   rw [hat] at e1
   unfold iiR at hy
   simp only [Option.some.injEq] at hy
   rw [← hy] at e1
   simpa [iiD] using e1
  subst hc
  exact hMore p w' cnt' hwf (by rw [← h4 p kl hk'];exact hlk) ⟨D,_,hr,h2,h3,fun q l hl=>by rw [h4 q l hl,key_str hk' hl]⟩ hlt hgr hsz hen
set_option maxRecDepth 100000 in
theorem wp_del_pn (hg:o.guard=none) (m x:Operand) (hop:o.op=Op.call {callee:=Callee.builtin Builtin.delete,args:=#[m,x],argTypes:=#[52,42]}) (b r n:Nat) (g:Pt→Int) (S:Pt→Bool) (cnt:Nat) (hm:a.eval m=.map (some b)) (p:Pt) (hp:wfPt p)
  (hx:a.eval x=.agg #[.int .i64 p.x,.int .i64 p.y]) (h:RngP w b r n g S cnt)
  (hK:∀ w' cnt',RngP w' b r n (fun q=>if q=p then 0 else g q) (fun q=>S q && !decide (q=p)) cnt'→cnt'≤cnt→w.mapTurned w' b→wpList Tryz.prog ops Q rest (a.put o.dst (.tuple #[])) w') :
  wpList Tryz.prog ops Q (o::rest) a w:=by
 obtain ⟨D,left,h1,h2,h3,h4⟩:=h
 obtain ⟨kl,hk⟩:=key_pt p hp
 refine wpList_delete_ranges w hg m x _ _ hop _ keyed_pt Tryz.underlying52 iiR b r n D left cnt hm h1 _ kl hx hk fun w' cnt' hr hle ht=>hK w' cnt' ⟨_,_,hr,h2.del _,⟨fun q l hl=>?_,fun q l hl=>?_⟩,fun q l hl=>?_⟩ hle ht
 ·
  by_cases e:q=p
  ·
   subst e
   rw [hk] at hl
   injection hl with hl
   subst hl
   rw [if_pos rfl,Maps.atKey_del_same]
  · rw [if_neg e,Maps.atKey_del_other (key_ne hl hk e),h3.at_ q l hl]
 ·
  by_cases e:q=p
  ·
   subst e
   rw [hk] at hl
   injection hl with hl
   subst hl
   rw [if_pos rfl,Maps.has_del_same];simp
  · rw [if_neg e,Maps.has_del_other (key_ne hl hk e),h3.has q l hl]
 · rw [h4 q l hl,key_str hk hl]
end
end Go.Proofs.YtpempeioeiaijaaGreat
namespace Go.Proofs.YtpempeioeiaijaaGreat
open Go.RowKit Go.Sort

theorem isAgg_Pt:∀ w,(isAgg 42).run Tryz.prog w=.ok true w:=fun _=>by kernel_rfl
theorem sizeOf_Pt:∀ w,(Go.sizeOf 42).run Tryz.prog w=.ok 2 w:=fun _=>by kernel_rfl
def RetSortPt (w:World) (base:Nat) (v:Value) (sl:List Pt) (e:Ending) (w':World):Prop :=
 e=.returned (.tuple #[])∧∃ sl':List Pt,sl'.Perm sl∧sl'.Pairwise (fun a b=>ltOf (fun x y:Pt=>cmpB x y) b a=false)∧Own w' base 42 2 ptC v sl'∧w.grownBy w' v.ownBlock
theorem SortPt_spec (base:Nat) (v:Value) (sl:List Pt) (w:World) (hown:Own w base 42 2 ptC v sl) (hn:sl.length≤4294967296) :
  Calls Tryz.prog 26 #[v,.func (.func 27) #[] #[]] w (RetSortPt w base v sl):=by
 rcases sl with _ | ⟨s0,rest⟩
 ·
  have hv:∃ p cap,v=.slice p 0 cap:=by
   rcases hown.2 with ⟨h,_⟩ | ⟨g,cap,cur,h,_⟩
   · exact ⟨_,_,h⟩
   · exact ⟨_,_,h⟩
  obtain ⟨p,cap,rfl⟩:=hv
  refine Calls.mono (AnyF.slices_SortFunc_none Tryz.sortPt p cap (.func (.func 27) #[] #[]) w) ?_
  rintro e w' ⟨rfl,rfl⟩
  exact ⟨rfl,[],List.Perm.refl _,List.Pairwise.nil,hown,World.grownBy.refl _ _⟩
 generalize hsl:s0::rest=sl at *
 have hs0:s0∈sl:=by rw [← hsl];simp
 have hpos:0<sl.length:=by rw [← hsl];simp
 obtain ⟨hlen,hown2⟩:=hown
 rcases hown2 with ⟨_,h0⟩ | ⟨g,cap,cur,rfl,hg,hh,hnc,hcm,hcs,hx⟩
 · omega
 haveI hI:Inhabited {s:Pt // s=s}:=⟨⟨s0,rfl⟩⟩
 have hdl:∃ dl:List {s:Pt // s=s},dl.map (·.1)=sl:=⟨sl.attachWith (fun s=>s=s) (fun _ _=>rfl),by simp⟩
 obtain ⟨dl,hdl⟩:=hdl
 have hdn:dl.length=sl.length:=by rw [← hdl];simp
 have hfm:dl.flatMap (fun x=>ptC x.1)=sl.flatMap ptC:=by rw [← hdl,List.flatMap_map]
 have hcur:∀ j,j<sl.length*2→cur[j]? = (sl.flatMap ptC)[j]? := fun j hj=>by
  rw [← hx,List.getElem?_take,if_pos hj];simp
 have eg:∀ args w,(callFunc 27 args).run Tryz.prog w=.ok (.enter 27 args) w:=enters_of Tryz.func27 (by kernel_rfl) rfl
 have hkk:∀ x:{s:Pt // s=s},(ptC x.1).length=2:=fun _=>rfl
 have hcmp:CmpLays Tryz.prog 27 #[] (fun x:{s:Pt // s=s}=>ptC x.1) 2 (fun x y=>(fun x y:Pt=>cmpB x y) x.1 y.1) g 0 dl.toArray.size w:=fun m os dk hdk x y=>by
  have hg':=sort_grown (fun x:{s:Pt // s=s}=>ptC x.1) 2 w g 0 m dk os

  exact (Cmp19_spec x.1 y.1 _).mono fun e w' h=>⟨h.1,belowD_grow h.2⟩
 have hsz:dl.toArray.size*2=sl.length*2:=by simp [hdn]
 have hH:HoldsK (fun x:{s:Pt // s=s}=>ptC x.1) 2 w g 0 dl.toArray:=fun j hj=>by
  rw [size_flatK,hsz] at hj
  refine ⟨?_,Blk.frozen (t:=42) (cs:=cur) hh _⟩
  rw [cell_of_row w g _ cur 42 (0,0) hh,Nat.zero_add,hcur j hj,flatK_list _ 2 hkk _ j (by rw [hsz];exact hj)]
  simp only [id]
  rw [hfm,List.getElem!_eq_getElem?_getD]
  have:j<(sl.flatMap ptC).length:=by rw [hlen];exact hj
  rw [List.getElem?_eq_getElem this];rfl
 have hcon:=AnyQ.slices_SortFunc Tryz.sortPt 2 isAgg_Pt sizeOf_Pt (fun x:{s:Pt // s=s}=>ptC x.1) hkk (fun x=>ptC_one x.1) (fun x y=>(fun x y:Pt=>cmpB x y) x.1 y.1) (swo_cmpB fun x:{s:Pt // s=s}=>x.1) 27 #[] g 0 cap dl.toArray w eg hcmp hH (Blk.lt hh) (by simp;omega)
 have hns:dl.toArray.size=sl.length:=by simp [hdn]
 rw [hns] at hcon
 refine Calls.mono hcon ?_
 rintro e w' ⟨rfl,d',n,os,hp,hs,rfl⟩
 obtain ⟨p1,-,p3⟩:=hp
 have hd':d'.size=sl.length:=by rw [p1,hns]
 have hperm:d'.toList.Perm dl:=by
  have e1:d'.extract 0 sl.length=d':=by rw [← hd'];simp
  have e2:dl.toArray.extract 0 sl.length=dl.toArray:=by rw [← hns];simp
  rw [e1,e2] at p3
  simpa using p3
 have hg':=sort_grown (fun x:{s:Pt // s=s}=>ptC x.1) 2 w g 0 n d' os
 refine ⟨rfl,d'.toList.map (·.1),by rw [← hdl];exact hperm.map _,?_,?_,hg'⟩
 ·
  rw [List.pairwise_map,List.pairwise_iff_getElem]
  intro i j hi hj hij
  have hj':j<d'.size:=by simpa using hj
  have:=hs i j (Nat.zero_le _) hij (by rw [← hd'];exact hj')
  rw [getElem!_pos d' j hj',getElem!_pos d' i (by omega)] at this
  exact this
 ·
  have hl':(d'.toList.map (·.1)).length=sl.length:=by simp [hd']
  unfold Own
  rw [hl']
  have hfd:(d'.toList.map (·.1)).flatMap ptC=d'.toList.flatMap (fun x=>ptC x.1):=by rw [List.flatMap_map]
  have hln:((d'.toList.map (·.1)).flatMap ptC).length=sl.length*2:=by rw [flat_length ptC 2 ptC_len,hl']
  refine ⟨hln,.inr ⟨g,cap,putCells id 0 (flatK (fun x:{s:Pt // s=s}=>ptC x.1) 2 d') cur,rfl,hg,?_,hnc,hcm,by simp [putCells,hcs],?_⟩⟩
  ·
   have hgl:g<w.heap.size:=Blk.lt hh
   rw [sort_heap,Array.getElem?_append_left (by simpa using hgl),Array.getElem?_modify,if_pos rfl,hh]
   rfl
  ·
   apply List.ext_getElem?
   intro j
   rw [List.getElem?_take]
   by_cases hj:j<sl.length*2
   ·
    rw [if_pos hj,hfd]
    have hjc:j<cur.size:=by rw [hcs];have:=Nat.mul_le_mul_right 2 hnc;omega
    have hjd:j<d'.size*2:=by rw [hd'];exact hj
    have e1:(putCells id 0 (flatK (fun x:{s:Pt // s=s}=>ptC x.1) 2 d') cur).toList[j]? = some (flatK (fun x:{s:Pt // s=s}=>ptC x.1) 2 d')[j]! := by
     simp [putCells,hjc,hjd]
    rw [e1,flatK_list _ 2 hkk _ j hjd,List.getElem!_eq_getElem?_getD]
    have:j<(d'.toList.flatMap fun x=>ptC x.1).length:=by rw [← hfd,hln];exact hj
    rw [List.getElem?_eq_getElem this];rfl
   · rw [if_neg hj,List.getElem?_eq_none (by rw [hln];omega)]
end Go.Proofs.YtpempeioeiaijaaGreat
namespace Go.Proofs.YtpempeioeiaijaaGreat
open Go.RowKit Go.Sort

def cnF (l:List Pt) (q:Pt):Int:=(l.count q:Int)
theorem cnF_snoc (l:List Pt) (p:Pt):(fun q=>if q=p then cnF l p+1 else cnF l q)=cnF (l++[p]):=by
 funext q
 unfold cnF
 rw [List.count_append]
 by_cases e:q=p
 · subst e;simp
 ·
  have:([p] : List Pt).count q=0:=List.count_eq_zero.2 (by simpa using e)
  rw [if_neg e,this];simp
theorem cnF_bd (l:List Pt) (q:Pt):0≤cnF l q∧cnF l q≤l.length:=by
 unfold cnF
 have:=List.count_le_length (l:=l) (a:=q)
 omega
theorem cnF_nil:cnF []=fun _=>0:=by funext q;simp [cnF]
theorem bump_eq {l:List Pt} (h:2≤l.length):bump l=l++[l[0]]++[l[l.length-1]]:=by
 unfold bump
 match l,h with
 | x::y::r,_ =>
  have:(x::y::r).getLast? = some ((x::y::r)[(x::y::r).length-1]):=by
   rw [List.getLast?_eq_getElem?,List.getElem?_eq_getElem (by simp)]
  rw [this];rfl
theorem bumps_take {L:List (List Pt)} {k:Nat} (hk:k<L.length) (h:2≤L[k].length):bumps (L.take (k+1))=bumps (L.take k)++L[k]++[L[k][0]]++[L[k][L[k].length-1]]:=by
 rw [List.take_succ_eq_append_getElem hk]
 unfold bumps
 rw [List.flatMap_append,List.flatMap_cons,List.flatMap_nil,List.append_nil,bump_eq h]
 simp only [List.append_assoc]
theorem bumps_take2 {L:List (List Pt)} {k:Nat} {l:List Pt} (hk:L[k]? = some l) (h:2≤l.length):bumps (L.take (k+1))=bumps (L.take k)++l++[l[0]]++[l[l.length-1]]:=by
 obtain ⟨h1,rfl⟩:=List.getElem?_eq_some_iff.1 hk
 exact bumps_take h1 h
theorem bumps_len (L:List (List Pt)) (m:Nat) (h:∀ l∈L,l.length≤m):(bumps L).length≤L.length*(m+2):=by
 unfold bumps
 refine flat_le L bump (m+2) fun l hl=>?_
 unfold bump
 have:=h l hl
 simp only [List.length_append]
 have h1:l.head?.toList.length≤1:=by cases l.head? <;> simp
 have h2:l.getLast?.toList.length≤1:=by cases l.getLast? <;> simp
 omega
def gF (f:Pt→Int) (S:Pt→Bool) (p:Pt):Int:=if S p then f p else if 2≤f p then f p else 0
theorem gF_start (f:Pt→Int):gF f (fun p=>decide (f p≠0))=f:=by
 funext p
 unfold gF
 by_cases h:f p=0
 · simp [h]
 · simp [h]
theorem gF_del {f:Pt→Int} {S:Pt→Bool} {p:Pt} (h:¬ 2≤f p):(fun q=>if q=p then 0 else gF f S q)=gF f (fun q=>S q && !decide (q=p)):=by
 funext q
 unfold gF
 by_cases e:q=p
 · subst e;simp [h]
 · simp [e]
theorem gF_stay {f:Pt→Int} {S:Pt→Bool} {p:Pt} (h:2≤f p):gF f S=gF f (fun q=>S q && !decide (q=p)):=by
 funext q
 unfold gF
 by_cases e:q=p
 · subst e;simp [h]
 · simp [e]
def g2F (f:Pt→Int) (p:Pt):Int:=if 2≤f p then f p else 0
theorem gF_end {f:Pt→Int} {S:Pt→Bool} (hf:∀ p,¬ wfPt p→f p=0) (h:∀ p,wfPt p→S p=false):gF f S=g2F f:=by
 funext q
 unfold gF g2F
 by_cases e:wfPt q
 · rw [h q e];rfl
 · rw [hf q e];simp
theorem nodup_len:∀ {l m:List Pt},l.Nodup→(∀ x∈l,x∈m)→l.length≤m.length
 | [],_,_,_=>Nat.zero_le _
 | x::l,m,hn,hs=>by
  obtain ⟨h1,h2⟩:=List.nodup_cons.1 hn
  have hx:=hs x List.mem_cons_self
  have h3:l.length≤(m.erase x).length:=nodup_len h2 fun y hy=>by
   have hne:y≠x:=fun e=>h1 (e ▸ hy)
   exact (List.mem_erase_of_ne hne).2 (hs y (List.mem_cons_of_mem _ hy))
  rw [List.length_erase_of_mem hx] at h3
  have h4:0<m.length:=List.length_pos_of_mem hx
  rw [List.length_cons]
  omega
end Go.Proofs.YtpempeioeiaijaaGreat
