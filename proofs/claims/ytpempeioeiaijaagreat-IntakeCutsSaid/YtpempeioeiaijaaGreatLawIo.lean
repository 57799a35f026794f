import Derived.Test.YtpempeioeiaijaaGreatLawIp
import Derived.Test.YtpempeioeiaijaaGreatJ29
import Derived.Test.YtpempeioeiaijaaGreatRSm14
import Derived.Test.YtpempeioeiaijaaGreatJ13
set_option linter.unusedSimpArgs false
set_option linter.unusedVariables false
namespace Go.Proofs.YtpempeioeiaijaaGreat
open Go.RowKit Go.Sort

theorem u8_bd19 {a:Int} (h:(Lit.int .u8 a).wf=true):0≤a∧a≤255:=by
 simp [Lit.wf,IntKind.min,IntKind.max,IntKind.signed,IntKind.bits] at h
 omega
theorem rem_fact19 (a:Int) (n:Nat) (ha:0≤a∧a≤255) (hn:0<n):∃ i:Nat,i<n∧IntKind.i64.wrap a=a∧a.tmod (n:Int)=(i:Int):=by
 obtain ⟨m,rfl⟩:∃ m:Nat,a=m:=⟨a.toNat,by omega⟩
 exact ⟨m % n,Nat.mod_lt _ hn,IntWalk.i64_in _ (by omega),by rw [Int.tmod_eq_emod_of_nonneg (by omega)];rfl⟩
theorem Own.row_w19 {α:Type} {f:α→List Value} {w:World} {base:Nat} {e:TypeId} {size:Nat} {A:Option Addr} {n c:Nat} {l:List α} (h:Own w base e size f (.slice A n c) l):Row w A (l.flatMap f):=by
 obtain ⟨A',c',he,-,-,hr⟩:=h.sl
 injection he with e1 e2 e3
 subst e1
 exact hr
theorem Own.ln_cell {w:World} {B g n c:Nat} {L:List (SV×List Pt)} (h:Own w B 25 1 llC (.slice (some ⟨g,0,none⟩) n c) L) (hl:0<L.length):B≤g∧g<w.heap.size∧(∀ j,w.frozen? ⟨g,j,none⟩=false) ∧
  ∀ k (hk:k<L.length),w.cell? ⟨g,k,none⟩=some (svV L[k].1):=by
 have hr:=h.row_w19
 rcases h.2 with ⟨_,h0⟩ | ⟨g',cap,cur,hv,hg,hh,-⟩
 · omega
 ·
  injection hv with e1 e2 e3
  injection e1 with e1
  injection e1 with e1 _ _
  subst e1
  refine ⟨hg,Blk.lt hh,fun j=>Blk.frozen hh j,fun k hk=>?_⟩
  obtain ⟨b,o,hbo,-,c0⟩:=Row.ln hr hk
  injection hbo with hbo
  injection hbo with y1 y2 _
  subst y1 y2
  rw [Nat.zero_add] at c0
  exact c0
theorem Own.ln_form {w:World} {B n c:Nat} {A:Option Addr} {L:List (SV×List Pt)} (h:Own w B 25 1 llC (.slice A n c) L) (hl:0<L.length):∃ g,A=some ⟨g,0,none⟩:=by
 rcases h.2 with ⟨_,h0⟩ | ⟨g',cap,cur,hv,hg,hh,-⟩
 · omega
 ·
  injection hv with e1 e2 e3
  exact ⟨g',e1⟩
def Few (L:List (List Pt)):Prop:=L.length≤14∧∀ l∈L,l.length≤70
theorem Few.perm {L M:List (List Pt)} (h:Few L) (hp:M.Perm L):Few M:=⟨by rw [hp.length_eq];exact h.1,fun l hl=>h.2 l (hp.subset hl)⟩
theorem Build19_few (v:Value) (xs:List (SV×List Pt)) (w:World) (h:Lns19 w v xs) (hl:Few (xs.map (·.2))):Calls Tryz.prog 18 #[v] w (RetBld w (xs.map (·.2))):=by
 obtain ⟨h1,h2⟩:=hl
 by_cases hz:chkL (xs.map (·.2))=0
 · exact Build19_ok v xs w h (chkL_good.1 hz)
 ·
  refine Build19_bad v xs w h (by simp at h1;omega) (fun k hk=>?_) hz
  have:=h2 _ (List.mem_map_of_mem (List.getElem_mem hk))
  omega
theorem Pts19_few (v:Value) (xs:List (SV×List Pt)) (w:World) (h:Lns19 w v xs) (hl:Few (xs.map (·.2))):Calls Tryz.prog 12 #[v] w (RetPA w (xs.map (·.2))):=by
 obtain ⟨h1,h2⟩:=hl
 by_cases hz:chkL (xs.map (·.2))=0
 ·
  refine (Points19_ok v xs w h (chkL_good.1 hz)).mono ?_
  rintro e w' ⟨A,c,rfl,hb,ho⟩
  have e1:ptsS (xs.map (·.2))=meetL (xs.map (·.2)):=by unfold ptsS;rw [if_pos hz]
  unfold RetPA
  rw [e1,hz]
  exact ⟨A,c,rfl,hb,ho.sl⟩
 ·
  refine (Points19_bad v xs w h (by simp at h1;omega) (fun k hk=>?_) hz).mono ?_
  ·
   have:=h2 _ (List.mem_map_of_mem (List.getElem_mem hk))
   omega
  ·
   rintro e w' ⟨rfl,hb⟩
   have e1:ptsS (xs.map (·.2))=[]:=by unfold ptsS;rw [if_neg hz]
   unfold RetPA
   rw [e1]
   exact ⟨none,0,rfl,hb,Sl.of_own (Own.nil _ w.heap.size 42 2 ptC)⟩
theorem ptsS_few {L:List (List Pt)} (hl:Few L):(ptsS L).length≤1000000000:=by
 unfold ptsS
 split
 ·
  obtain ⟨h1,h2⟩:=hl
  have h3:(meetL L).length≤(bumps L).length:=nodup_len (meetL_nodup L) fun p hp=>by
   have h9:=meetL_mem.1 hp
   unfold meets at h9
   exact List.count_pos_iff.1 (by have:=of_decide_eq_true h9;omega)
  have h4:=bumps_len L 70 h2
  omega
 · exact Nat.zero_le _
theorem ptsS_perm {L M:List (List Pt)} (h:L.Perm M):ptsS L=ptsS M:=by unfold ptsS;rw [chkL_perm h,meetL_perm h]
theorem drop_take_perm {α:Type} (l:List α) (n:Nat):(l.drop n++l.take n).Perm l:=(List.perm_append_comm).trans (by rw [List.take_append_drop])

set_option maxRecDepth 100000 in
set_option maxHeartbeats 8000000 in
theorem IntakeOrders_spec (v:Value) (xs:List (SV×List Pt)) (kk:Int) (w:World) (h:Lns19 w v xs) (hu:(Lit.int .u8 kk).wf=true):Calls Tryz.prog 6 #[v,.int .u8 kk] w fun e w'=>e=.returned (.bool true)∧Below w.heap.size w w':=by
 have hkb:=u8_bd19 hu
 have HAw:=Lib.hid (fun W=>Awake19_spec W)
 have HLi:=Lib.hid (Light19_spec v xs w h)
 have HX:=Lib.hid h
 obtain ⟨⟨A,c,rfl,hm1,hm2,hR⟩,hP⟩:=h
 unfold maxLen at hm2
 have HS:=Lib.hid (show Sl w (.slice A xs.length c) xs.length (xs.flatMap llC) from ⟨A,c,rfl,hm1,hm2,hR⟩)
 have HP:=Lib.hid hP
 clear hu hR hP
 cases hl:light19S (xs.map (·.2))
 case false =>
  rw [hl] at HLi
  clear hl HX HS HP
  generalize xs.length=n at *
  go_enter Tryz.func6,Tryz.ntmps6
  go_wp2_with fail
  refine HLi.out.mono ?_
  rintro e w1 ⟨rfl,hb1⟩
  go_wp2_with fail
  refine (HAw.out _).mono ?_
  rintro e w2 ⟨rfl,hb2⟩
  go_wp2_with fail
  go_ret
  exact ⟨rfl,bT hb1 hb2⟩
 case true =>
  rw [hl] at HLi
  have HFw:=Lib.hid (show Few (xs.map (·.2)) from light_bd hl)
  have h14:xs.length≤14:=by have:=HFw.out.1;simpa using this
  clear hl
  go_enter Tryz.func6,Tryz.ntmps6
  go_wp2_with fail
  refine HLi.out.mono ?_
  rintro e w1 ⟨rfl,hb1⟩
  have HB1:=Lib.hid hb1
  clear hb1 HLi
  by_cases h0:xs.length=0
  ·
   have h0':(xs.length:Int)=0:=by omega
   clear h0
   go_wp2_with fail
   refine (HAw.out _).mono ?_
   rintro e w2 ⟨rfl,hb2⟩
   go_wp2_with fail
   go_ret
   exact ⟨rfl,bT HB1.out hb2⟩
  have h0':¬ (xs.length:Int)=0:=by omega
  obtain ⟨n,hn,hwr,hmod⟩:=rem_fact19 kk xs.length hkb (by omega)
  have hrun1:=run_pre Tryz.underlying22 (fun w=>show (Go.sizeOf 25).run Tryz.prog w=.ok 1 w by kernel_rfl) A xs.length c n (by omega) hm1
  have hrun2:=run_cut Tryz.underlying22 (fun w=>show (Go.sizeOf 25).run Tryz.prog w=.ok 1 w by kernel_rfl) A xs.length c n (by omega) (n:Int) rfl
  have HTk:=Lib.hid (show Sl w (.slice A n c) (xs.take n).length ((xs.take n).flatMap llC) from Sl.pre_ HS.out n (by omega))
  have HDr:=Lib.hid (show Sl w (.slice (cutA A c n 1) (xs.length-n) (c-n)) (xs.drop n).length ((xs.drop n).flatMap llC) from Sl.from_ llC_len HS.out n (by omega))
  have HTl:=Lib.hid (show (xs.take n).length≤14 by rw [List.length_take];omega)
  have HDl:=Lib.hid (show (xs.drop n).length≤14 by rw [List.length_drop];omega)
  obtain ⟨ys0,hys0⟩:∃ ys0,xs.drop n++xs.take n=ys0:=⟨_,rfl⟩
  have HY0:=Lib.hid hys0
  have HPm:=Lib.hid (show ys0.Perm xs by rw [← hys0];exact drop_take_perm xs n)
  have HNl:=Lib.hid (show ys0.length=xs.length from HPm.out.length_eq)
  clear hys0
  go_upto_region 4 with fail
  refine rg_start (SinceB (w1.heap.size) w1) (.run 3 1 0 (.run 3 5 14 (.call 0 239 (.call 4 255 (.call 8 511 (.take 9 1023 (.done))))))) (by kernel_rfl) (Below.drew (Below.refl _ _)) (by kernel_rfl) (by kernel_rfl) (Nat.le_of_ble_eq_true (by kernel_rfl)) ?_
  intro opsR QR Hops HQrg hS
  iterate 6
   apply rg_pB;exact Hops;exact rfl;exact hS;exact rfl
   · intro _ hqc;go_simp;try rfl
   try simp only [pu]
  refine rg_call (i:=0) (get_of Hops rfl) (fun K hK=>?_)
  have HSrg:=Lib.hid hS;clear hS
  refine rg_run (wanted_plain rfl) ?_
  go_simp
  refine hK.out _ _ (bAB (by omega) HSrg.out _) (fun hS=>?_)
  clear hK K HSrg
  try simp only [pu]
  refine rg_call (i:=4) (get_of Hops rfl) (fun K hK=>?_)
  have HSrg:=Lib.hid hS;clear hS
  refine rg_run (wanted_plain rfl) ?_
  refine wp_appl (.tmp 31) (.tmp 34) _ rfl (base:=w1.heap.size) (l:=([] : List (SV×List Pt))) (l2:=xs.drop n) elem_ln llC_len llC_one rfl (Own.lit _ _ _ _ llC [] _ 0 _ (by simp) rfl (by first | omega | (simp;done) | (simp;omega)) (le_maxLen (by omega)) rfl rfl) rfl (HDr.out.mono (bA (bD HB1.out) _)) (by have:=HDl.out;simp only [List.length_nil];omega) (by have:=HDl.out;simp only [List.length_nil];omega) (by simp) ?_
  intro v4 w4 ho4 hg4 hat4
  replace ho4:Own w4 w1.heap.size 25 1 llC v4 (xs.drop n):=ho4
  have hB4:Below w1.heap.size w1 w4:=bG (bA (bD (bR w1)) _) hg4 (fun g hg=>by have h:=Option.some.inj hg;simp at h;omega)
  have hS:SinceB (w1.heap.size) w1 w4:=hB4
  have HB4:=Lib.hid hB4
  have HO4:=Lib.hid ho4
  have hz4:w1.heap.size≤w4.heap.size:=hB4.size
  clear ho4 hg4 hat4 hB4
  clear HSrg
  refine hK.out _ _ hS (fun _=>?_)
  clear hK K
  try simp only [pu]
  refine rg_call (i:=8) (get_of Hops rfl) (fun K hK=>?_)
  have HSrg:=Lib.hid hS;clear hS
  refine rg_run (wanted_plain rfl) ?_
  refine wp_appl (.tmp 35) (.tmp 38) _ rfl (base:=w1.heap.size) (l:=xs.drop n) (l2:=xs.take n) elem_ln llC_len llC_one rfl HO4.out rfl (HTk.out.mono (bT HB1.out HB4.out)) (by have:=HTl.out;have:=HDl.out;omega) (by have:=HTl.out;have:=HDl.out;omega) hz4 ?_
  intro v5 w5 ho5 hg5 hat5
  have hS:SinceB (w1.heap.size) w1 w5:=Below.grown HB4.out hg5 hz4 (fun g hg=>(HO4.out.lt g hg).1)
  rw [HY0.out] at ho5
  obtain ⟨A5,c5,hv5,-,-⟩:=Own.shape_ ho5
  rw [HNl.out] at hv5
  subst hv5
  have HO5:=Lib.hid ho5
  clear ho5 hg5 hat5
  clear HSrg
  refine hK.out _ _ hS (fun _=>?_)
  clear hK K
  try simp only [pu]
  apply rg_pB;exact Hops;exact rfl;exact hS;exact rfl
  · intro _ hqc;go_simp;try rfl
  try simp only [pu]
  refine rg_done ?_
  refine HQrg.down _ _ ?_
  have hB:Below (w1.heap.size) w1 _:=hS
  clear hS HQrg Hops
  obtain ⟨gT,hgT⟩:=Own.ln_form HO5.out (by have:=HNl.out;omega)
  subst hgT
  have HB5:=Lib.hid hB
  have hpar:kk.tmod 2=1∨kk.tmod 2=0:=by rw [Int.tmod_eq_emod_of_nonneg (by omega)];omega
  obtain ⟨par,hpr⟩:∃ par,kk.tmod 2=par:=⟨_,rfl⟩
  rw [hpr] at hpar
  have hmod2:(2:Int)=2:=rfl
  clear hB hrun1 hrun2 HTk HDr HTl HDl HO4 HY0 HNl hwr hmod HB4 hz4 hmod2
  go_upto_block 0 with fail
  go_wp2_with fail
  go_loopw [7,8] (fun u z wr=>∃ (i:Nat) (ys:List (SV×List Pt)),i≤xs.length∧u=.int .i64 i∧z=.int .i64 ((xs.length:Int)-1-i)∧ys.Perm xs∧Own wr w1.heap.size 25 1 llC (.slice (some ⟨gT,0,none⟩) xs.length c5) ys∧Below w1.heap.size w1 wr) (fun u _ _=>xs.length-(intOf u).toNat)
  case atStart => exact ⟨0,ys0,Nat.zero_le _,rfl,by go_num,HPm.out,HO5.out,HB5.out⟩
  case round =>
   obtain ⟨i,ys,hi,rfl,rfl,hpm,ho,hb⟩:=hrel
   obtain ⟨wo,rfl⟩:∃ wo:World,wo=wr:=⟨_,rfl⟩
   have HPy:=Lib.hid hpm;have HO:=Lib.hid ho;have Hb:=Lib.hid hb
   clear hpm ho hb HO5 HB5 HPm
   by_cases hgo:(i:Int)<(xs.length:Int)-1-i∧par=1
   ·
    obtain ⟨hij,rfl⟩:=hgo
    obtain ⟨j,hj⟩:∃ j:Nat,(xs.length:Int)-1-i=j:=⟨xs.length-1-i,by omega⟩
    rw [hj] at hij ⊢
    have hyl:ys.length=xs.length:=HPy.out.length_eq
    obtain ⟨hg1,hg2,hfz,hce⟩:=Own.ln_cell HO.out (by omega)
    have hiy:i<ys.length:=by omega
    have hjy:j<ys.length:=by omega
    have c0:=hce i hiy;have c1:=hce j hjy
    have f0:=hfz i;have f1:=hfz j
    have Hsw:=Lib.hid (List.set_set_perm hiy hjy)
    have Hset:=Lib.hid (show Own ((wo.setCell ⟨gT,i,none⟩ (svV ys[j].1)).setCell ⟨gT,j,none⟩ (svV ys[i].1)).drew w1.heap.size 25 1 llC (.slice (some ⟨gT,0,none⟩) xs.length c5) ((ys.set i ys[j]).set j ys[i]) from by
     have h1:=Own.put_cell llC_len HO.out hiy (j:=0) (by omega) ys[j] (svV ys[j].1) rfl
     have h2:=Own.put_cell llC_len h1 (i:=j) (by rw [List.length_set];exact hjy) (j:=0) (by omega) ys[i] (svV ys[i].1) (by rw [List.getElem_set];split<;>rfl)
     exact Own.keep (by simpa using h2) (bD (bR _)))
    have HBs:=Lib.hid (show Below w1.heap.size w1 ((wo.setCell ⟨gT,i,none⟩ (svV ys[j].1)).setCell ⟨gT,j,none⟩ (svV ys[i].1)).drew from bD (bS (p:=⟨gT,j,none⟩) (bS (p:=⟨gT,i,none⟩) Hb.out hg1 _) hg1 _))
    generalize ys[i]=yi at *
    generalize ys[j]=yj at *
    unfold svV at c0 c1
    have z1:(i:Int)<xs.length:=by omega
    have z2:(0:Int)≤i:=by omega
    have z3:(j:Int)<xs.length:=by omega
    have z4:(0:Int)≤j:=by omega
    clear hce hfz
    go_upto_region 8 with fail
    refine rg_start (SinceX wo (some gT)) (.run 7 0 0 (.run 3 8 127 (.two 7 2047 (.call 11 4095 (.take 12 8191 (.call 13 16383 (.take 14 32767 (.call 15 65535 (.done)))))) 11 3967 (.call 7 4095 (.take 12 8191 (.call 13 16383 (.take 14 32767 (.call 15 65535 (.done))))))))) (by kernel_rfl) (gD (gR _ _)) (by kernel_rfl) (by kernel_rfl) (Nat.le_of_ble_eq_true (by kernel_rfl)) ?_
    intro opsR QR Hops HQrg hS
    iterate 10
     apply rg_pX;exact Hops;exact rfl;exact hS;exact rfl
     · intro _ hqc;go_simp;try rfl
     try simp only [pu]
    refine rg_two (i:=7) (j:=11) (get_of Hops rfl) (get_of Hops rfl) (fun K hK=>?_) (fun K hK=>?_)
    ·
     have HSrg:=Lib.hid hS;clear hS
     refine rg_run (wanted_plain rfl) ?_
     go_simp
     refine hK.out _ _ HSrg.out (fun hS=>?_)
     clear hK K HSrg
     try simp only [pu]
     refine rg_call (i:=11) (get_of Hops rfl) (fun K hK=>?_)
     have HSrg:=Lib.hid hS;clear hS
     refine rg_run (wanted_plain rfl) ?_
     go_simp
     refine hK.out _ _ HSrg.out (fun hS=>?_)
     clear hK K HSrg
     try simp only [pu]
     apply rg_pX;exact Hops;exact rfl;exact hS;exact rfl
     · intro _ hqc;go_simp;try rfl
     try simp only [pu]
     refine rg_call (i:=13) (get_of Hops rfl) (fun K hK=>?_)
     have HSrg:=Lib.hid hS;clear hS
     refine rg_run (wanted_plain rfl) ?_
     go_simp
     refine hK.out _ _ (by first | exact gS HSrg.out _ _ | (unfold SinceX;have hS9:World.grownBy _ _ _:=HSrg.out;repeat (first | with_reducible assumption | with_reducible exact World.grownBy.refl _ _ | with_reducible refine gS ?_ _ _ | with_reducible refine gD ?_ | with_reducible refine gA ?_ _))) (fun hS=>?_)
     clear hK K HSrg
     try simp only [pu]
     apply rg_pX;exact Hops;exact rfl;exact hS;exact rfl
     · intro _ hqc;go_simp;try rfl
     try simp only [pu]
     refine rg_call (i:=15) (get_of Hops rfl) (fun K hK=>?_)
     have HSrg:=Lib.hid hS;clear hS
     refine rg_run (wanted_plain rfl) ?_
     go_simp
     refine hK.out _ _ (by first | exact gS HSrg.out _ _ | (unfold SinceX;have hS9:World.grownBy _ _ _:=HSrg.out;repeat (first | with_reducible assumption | with_reducible exact World.grownBy.refl _ _ | with_reducible refine gS ?_ _ _ | with_reducible refine gD ?_ | with_reducible refine gA ?_ _))) (fun hS=>?_)
     clear hK K HSrg
     try simp only [pu]
     refine rg_done ?_
     refine HQrg.down _ _ ?_
     have hB:wo.grownBy _ (some gT):=hS
     clear hS HQrg Hops
     go_wp2_with fail
     go_roundw
     case rel => exact ⟨i+1,_,by omega,by go_num,by go_num,Hsw.out.trans HPy.out,Hset.out,HBs.out⟩
     case measure => simp [intOf];omega
    ·
     have HSrg:=Lib.hid hS;clear hS
     refine rg_run (wanted_plain rfl) ?_
     go_simp
     refine hK.out _ _ HSrg.out (fun hS=>?_)
     clear hK K HSrg
     try simp only [pu]
     refine rg_call (i:=7) (get_of Hops rfl) (fun K hK=>?_)
     have HSrg:=Lib.hid hS;clear hS
     refine rg_run (wanted_plain rfl) ?_
     go_simp
     refine hK.out _ _ HSrg.out (fun hS=>?_)
     clear hK K HSrg
     try simp only [pu]
     apply rg_pX;exact Hops;exact rfl;exact hS;exact rfl
     · intro _ hqc;go_simp;try rfl
     try simp only [pu]
     refine rg_call (i:=13) (get_of Hops rfl) (fun K hK=>?_)
     have HSrg:=Lib.hid hS;clear hS
     refine rg_run (wanted_plain rfl) ?_
     go_simp
     refine hK.out _ _ (by first | exact gS HSrg.out _ _ | (unfold SinceX;have hS9:World.grownBy _ _ _:=HSrg.out;repeat (first | with_reducible assumption | with_reducible exact World.grownBy.refl _ _ | with_reducible refine gS ?_ _ _ | with_reducible refine gD ?_ | with_reducible refine gA ?_ _))) (fun hS=>?_)
     clear hK K HSrg
     try simp only [pu]
     apply rg_pX;exact Hops;exact rfl;exact hS;exact rfl
     · intro _ hqc;go_simp;try rfl
     try simp only [pu]
     refine rg_call (i:=15) (get_of Hops rfl) (fun K hK=>?_)
     have HSrg:=Lib.hid hS;clear hS
     refine rg_run (wanted_plain rfl) ?_
     go_simp
     refine hK.out _ _ (by first | exact gS HSrg.out _ _ | (unfold SinceX;have hS9:World.grownBy _ _ _:=HSrg.out;repeat (first | with_reducible assumption | with_reducible exact World.grownBy.refl _ _ | with_reducible refine gS ?_ _ _ | with_reducible refine gD ?_ | with_reducible refine gA ?_ _))) (fun hS=>?_)
     clear hK K HSrg
     try simp only [pu]
     refine rg_done ?_
     refine HQrg.down _ _ ?_
     have hB:wo.grownBy _ (some gT):=hS
     clear hS HQrg Hops
     go_wp2_with fail
     go_roundw
     case rel => exact ⟨i+1,_,by omega,by go_num,by go_num,Hsw.out.trans HPy.out,Hset.out,HBs.out⟩
     case measure => simp [intOf];omega
   ·
    have hc:¬ (i:Int)<(xs.length:Int)-1-i∨(par=0∧(i:Int)<(xs.length:Int)-1-i):=by omega
    clear hgo
    rcases hc with h1 | ⟨rfl,h1⟩
    all_goals
     have hLy:Lns19 wo (.slice (some ⟨gT,0,none⟩) xs.length c5) ys:=⟨Own.sl HO.out,fun k hk=>by
      obtain ⟨j,hj,he⟩:=List.mem_iff_getElem.1 (HPy.out.subset (List.getElem_mem hk))
      rw [← he]
      exact (HP.out j hj).mono (bT HB1.out Hb.out)⟩
     have hpm2:(ys.map (·.2)).Perm (xs.map (·.2)):=HPy.out.map _
     have HBx:=Lib.hid (fun W (hW:Below w.heap.size w W)=>Build19_few _ xs W (HX.out.mono hW) HFw.out)
     have HQx:=Lib.hid (fun W (hW:Below w.heap.size w W)=>Pts19_few _ xs W (HX.out.mono hW) HFw.out)
     have HBy:=Lib.hid (fun W (hW:Below wo.heap.size wo W)=>show Calls Tryz.prog 18 #[.slice (some ⟨gT,0,none⟩) xs.length c5] W (RetBld W (xs.map (·.2))) from by
      have h9:=Build19_few _ ys W (hLy.mono hW) (HFw.out.perm hpm2)
      unfold RetBld at h9 ⊢
      rw [bldZ_perm hpm2,bldP_perm hpm2] at h9
      exact h9)
     have HQy:=Lib.hid (fun W (hW:Below wo.heap.size wo W)=>show Calls Tryz.prog 12 #[.slice (some ⟨gT,0,none⟩) xs.length c5] W (RetPA W (xs.map (·.2))) from by
      have h9:=Pts19_few _ ys W (hLy.mono hW) (HFw.out.perm hpm2)
      unfold RetPA at h9 ⊢
      rw [chkL_perm hpm2,ptsS_perm hpm2] at h9
      exact h9)
     have hln:(ptsS (xs.map (·.2))).length≤1000000000:=ptsS_few HFw.out
     have HB0:=Lib.hid (bT HB1.out Hb.out)
     unfold RetBld at HBx HBy
     unfold RetPA at HQx HQy
     generalize bldZ (xs.map (·.2))=z at *
     generalize bldP (xs.map (·.2))=P at *
     generalize chkL (xs.map (·.2))=zc at *
     generalize ptsS (xs.map (·.2))=l at *
     obtain ⟨n1,hn1⟩:∃ n1,P.nodes.length=n1:=⟨_,rfl⟩
     obtain ⟨n2,hn2⟩:∃ n2,P.arcs.length=n2:=⟨_,rfl⟩
     obtain ⟨n3,hn3⟩:∃ n3,P.faces.length=n3:=⟨_,rfl⟩
     obtain ⟨n4,hn4⟩:∃ n4,l.length=n4:=⟨_,rfl⟩
     rw [hn4] at HQx HQy hln
     have HNl4:=Lib.hid hn4
     clear hLy hpm2 HX HFw HP HS HO HPy Hb hn4
     go_upto_region 9 with fail
     go_wp2_with fail
     refine (HBx.out _ HB0.out).mono ?_
     rintro e w2 ⟨v2,rfl,hb2,hp2⟩
     obtain ⟨An,cn,Aa,ca,Af,cf,hv2⟩:=hp2.open3
     rw [hn1,hn2,hn3] at hv2
     subst hv2
     go_upto_region 10 with fail
     obtain ⟨g3,hg3⟩:∃ g3,w2.heap.size=g3:=⟨_,rfl⟩
     obtain ⟨W3,hW⟩:∃ W:World,W=w2.alloc (.cells #[.slice An n1 cn,.slice Aa n2 ca,.slice Af n3 cf] 34):=⟨_,rfl⟩
     have hA3:Below w2.heap.size w2 W3:=by rw [hW];exact bA (bR w2) _
     have HX3:=Lib.hid (show Blk W3 g3 34 #[.slice An n1 cn,.slice Aa n2 ca,.slice Af n3 cf] by rw [hW];exact Blk.made hg3.symm _ _)
     have HP3:=Lib.hid (hp2.mono hA3)
     have HW3:=Lib.hid (bT hb2 hA3)
     rw [← hW]
     try rw [hg3]
     clear hW hg3 hA3 hb2 hp2
     go_wp2_with fail
     refine (HBy.out _ HW3.out).mono ?_
     rintro e w4 ⟨v4',rfl,hb4,hp4⟩
     obtain ⟨Bn,dn,Ba,da,Bf,df,hv4⟩:=hp4.open3
     rw [hn1,hn2,hn3] at hv4
     subst hv4
     have HX4:=Lib.hid (HX3.out.keep hb4);have HP4:=Lib.hid (HP3.out.mono hb4);have HW4:=Lib.hid (bT HW3.out hb4)
     go_upto_region 11 with fail
     obtain ⟨g5,hg5⟩:∃ g5,w4.heap.size=g5:=⟨_,rfl⟩
     obtain ⟨W5,hW⟩:∃ W:World,W=w4.alloc (.cells #[.slice Bn n1 dn,.slice Ba n2 da,.slice Bf n3 df] 34):=⟨_,rfl⟩
     have hA5:Below w4.heap.size w4 W5:=by rw [hW];exact bA (bR w4) _
     have HY5:=Lib.hid (show Blk W5 g5 34 #[.slice Bn n1 dn,.slice Ba n2 da,.slice Bf n3 df] by rw [hW];exact Blk.made hg5.symm _ _)
     have HX5:=Lib.hid (HX4.out.keep hA5);have HP5:=Lib.hid (HP4.out.mono hA5);have HQ5:=Lib.hid (PlV.mono hp4 hA5);have HW5:=Lib.hid (bT HW4.out hA5)
     rw [← hW]
     try rw [hg5]
     clear hW hg5 hA5 hb4 hp4 HX4 HP4 HW4 HX3 HP3 HW3 HBx HBy
     go_wp2_with fail
     refine (HQx.out _ (bT HB0.out HW5.out)).mono ?_
     rintro e w6 ⟨A6,c6,rfl,hb6,hp6⟩
     have HX6:=Lib.hid (HX5.out.keep hb6);have HY6:=Lib.hid (HY5.out.keep hb6);have HP6:=Lib.hid (HP5.out.mono hb6);have HQ6:=Lib.hid (HQ5.out.mono hb6);have HW6:=Lib.hid (bT HW5.out hb6)
     have Hp6:=Lib.hid hp6
     clear hb6 hp6 HX5 HY5 HP5 HQ5 HW5
     go_wp2_with fail
     refine (HQy.out _ HW6.out).mono ?_
     rintro e w7 ⟨A7,c7,rfl,hb7,hp7⟩
     have HX7:=Lib.hid (HX6.out.keep hb7);have HY7:=Lib.hid (HY6.out.keep hb7);have HP7:=Lib.hid (HP6.out.mono hb7);have HQ7:=Lib.hid (HQ6.out.mono hb7);have HW7:=Lib.hid (bT HW6.out hb7)
     have Hp7:=Lib.hid (Pts.mono Hp6.out hb7);have Hq7:=Lib.hid hp7
     clear hb7 hp7 HX6 HY6 HP6 HQ6 HW6 Hp6
     go_wp2_with fail
     refine (HAw.out _).mono ?_
     rintro e w8 ⟨rfl,hb8⟩
     have X3:=HX7.out.keep hb8
     have X5:=HY7.out.keep hb8
     have HP8:=Lib.hid (HP7.out.mono hb8);have HQ8:=Lib.hid (HQ7.out.mono hb8);have HW8:=Lib.hid (bT HW7.out hb8)
     have Hp8:=Lib.hid (Pts.mono Hp7.out hb8);have Hq8:=Lib.hid (Pts.mono Hq7.out hb8)
     clear hb8 HX7 HY7 HP7 HQ7 HW7 Hp7 Hq7
     obtain ⟨X3l,X3a,X3b,X3c,-,-,-⟩:=X3.facts3
     obtain ⟨X5l,X5a,X5b,X5c,-,-,-⟩:=X5.facts3
     go_wp2_with fail
     refine (RSame14_true _ _ P _ HP8.out HQ8.out).mono ?_
     rintro e w9 ⟨rfl,hb9⟩
     have HW9:=Lib.hid (bT HW8.out hb9)
     have Hp9:=Lib.hid (Pts.mono Hp8.out hb9);have Hq9:=Lib.hid (Pts.mono Hq8.out hb9)
     clear hb9 X3 X3l X3a X3b X3c X5 X5l X5a X5b X5c HP8 HQ8 HW8 Hp8 Hq8
     go_wp2_with fail
     refine (Same19_one A6 A7 n4 c6 c7 l _ _ _ HNl4.out hln (Hp9.out.mono (bA (bA (bR w9) _) _)) (Hq9.out.mono (bA (bA (bR w9) _) _)) (Lns19.one ((Blk.made rfl _ _).alloc _) (Hp9.out.mono (bA (bA (bR w9) _) _))) (Lns19.one (Blk.made (by simp) _ _) (Hq9.out.mono (bA (bA (bR w9) _) _)))).mono ?_
     rintro e w10 ⟨rfl,hb10⟩
     have HW10:=Lib.hid (bT HB0.out (bT (bA (bA HW9.out _) _) hb10))
     clear hb10
     go_wp2_with fail
     go_ret
     exact ⟨ret_bool (by simp),HW10.out⟩

end Go.Proofs.YtpempeioeiaijaaGreat
